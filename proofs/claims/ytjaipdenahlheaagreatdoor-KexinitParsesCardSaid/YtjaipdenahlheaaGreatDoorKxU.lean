/-
 The contract of the reference's Parse of kexinit. Conditions: payloads of at most 2,000 bytes.
-/
import Derived.Test.YtjaipdenahlheaaGreatDoorKxT
import Derived.Test.YtjaipdenahlheaaGreatDoorKx2
set_option linter.unusedVariables false
set_option linter.unusedSimpArgs false
namespace Go.Proofs.YtjaipdenahlheaaGreatDoor
open Go.RowKit Go.ChangeShapes Go.WideShapes Go.Sort
def RParP (p : List UInt8) (w : World) (e : Ending) (w' : World) : Prop :=
 Below w.heap.size w w' ∧
  ((∃ ck l1 l2 l3 l4 l5 l6 l7 l8 l9 l10 f, ∃ A0 n0 c0 A1 n1 c1 A2 n2 c2 A3 n3 c3 A4 n4 c4 A5 n5 c5 A6 n6 c6 A7 n7 c7 A8 n8 c8 A9 n9 c9, decS p = .ok 20 (kexFs ck [l1, l2, l3, l4, l5, l6, l7, l8, l9, l10] f 0) ∧ (f = 0 ∨ f = 1) ∧ markedL (splitM l1).rest = false ∧
   e = .returned (.tuple #[.agg #[.string (bs ck), .slice A0 n0 c0, .slice A1 n1 c1, .slice A2 n2 c2, .slice A3 n3 c3, .slice A4 n4 c4, .slice A5 n5 c5, .slice A6 n6 c6, .slice A7 n7 c7, .slice A8 n8 c8, .slice A9 n9 c9, .bool (splitM l1).a, .bool (splitM l1).b, .bool (splitM l1).c, .bool (splitM l1).d, .bool (f == 1)], .agg #[.int .i64 0, .string ⟨#[]⟩]]) ∧
   AllC w' [.slice A0 n0 c0, .slice A1 n1 c1, .slice A2 n2 c2, .slice A3 n3 c3, .slice A4 n4 c4, .slice A5 n5 c5, .slice A6 n6 c6, .slice A7 n7 c7, .slice A8 n8 c8, .slice A9 n9 c9] [(splitM l1).rest, l2, l3, l4, l5, l6, l7, l8, l9, l10]) ∨
  (∃ ps, ∃ k : Nat, ParE (decS p) ps k ∧ k ≠ 0 ∧ e = .returned (.tuple #[.agg #[.string ⟨#[]⟩, .slice none 0 0, .slice none 0 0, .slice none 0 0, .slice none 0 0, .slice none 0 0, .slice none 0 0, .slice none 0 0, .slice none 0 0, .slice none 0 0, .slice none 0 0, .bool false, .bool false, .bool false, .bool false, .bool false], .agg #[.int .i64 k, .string (bs (atL ps))]])))
theorem stoE {x y : Operand} {g : Nat} {k : Int} {s : ByteArray} (o : Oper) (ho : o.op = .store 42 x y) (ρ : Operand → Value) (hρ : ρ x = .pointer (some ⟨g, 0, none⟩)) (hρ2 : ρ y = .agg #[.int .i64 k, .string s]) (w : World) (hb : Blk w g 42 #[.int .i64 0, .string ⟨#[]⟩]) :
  (execOp ρ o).run Tryz.prog w = .ok .skip ((w.setCell ⟨g, 0, none⟩ (.int .i64 k)).setCell ⟨g, 1, none⟩ (.string s)) := by
 obtain ⟨d, op, t, p, af, gd⟩ := o
 simp only at ho
 subst ho
 have c0 := hb.cell 0
 have f0 := hb.frozen 0
 have c1 := hb.cell 1
 have f1 := hb.frozen 1
 simp at c0 c1
 clear hb
 go_simp
theorem sto16_far {w : World} {g r : Nat} {t : TypeId} {cs : Array Value} (h : Blk w g t cs) (hne : g ≠ r) (v0 v1 v2 v3 v4 v5 v6 v7 v8 v9 v10 v11 v12 v13 v14 v15 : Value) : Blk (sto16 w r v0 v1 v2 v3 v4 v5 v6 v7 v8 v9 v10 v11 v12 v13 v14 v15) g t cs := ((((((((((((((((h.far (p := ⟨r, 0, none⟩) hne v0).far (p := ⟨r, 1, none⟩) hne v1).far (p := ⟨r, 2, none⟩) hne v2).far (p := ⟨r, 3, none⟩) hne v3).far (p := ⟨r, 4, none⟩) hne v4).far (p := ⟨r, 5, none⟩) hne v5).far (p := ⟨r, 6, none⟩) hne v6).far (p := ⟨r, 7, none⟩) hne v7).far (p := ⟨r, 8, none⟩) hne v8).far (p := ⟨r, 9, none⟩) hne v9).far (p := ⟨r, 10, none⟩) hne v10).far (p := ⟨r, 11, none⟩) hne v11).far (p := ⟨r, 12, none⟩) hne v12).far (p := ⟨r, 13, none⟩) hne v13).far (p := ⟨r, 14, none⟩) hne v14).far (p := ⟨r, 15, none⟩) hne v15)
theorem rerr_fin {w0 w : World} {r : Nat} {k : Nat} {s : ByteArray} (hR : Blk w r 45 #[.string ⟨#[]⟩, .slice none 0 0, .slice none 0 0, .slice none 0 0, .slice none 0 0, .slice none 0 0, .slice none 0 0, .slice none 0 0, .slice none 0 0, .slice none 0 0, .slice none 0 0, .bool false, .bool false, .bool false, .bool false, .bool false]) (hE : Blk w (r + 1) 42 #[.int .i64 0, .string ⟨#[]⟩]) (hb : Below w0.heap.size w0 w) (hr : w0.heap.size ≤ r) :
  Blk (((sto16 w r (.string ⟨#[]⟩) (.slice none 0 0) (.slice none 0 0) (.slice none 0 0) (.slice none 0 0) (.slice none 0 0) (.slice none 0 0) (.slice none 0 0) (.slice none 0 0) (.slice none 0 0) (.slice none 0 0) (.bool false) (.bool false) (.bool false) (.bool false) (.bool false)).setCell ⟨r + 1, 0, none⟩ (.int .i64 k)).setCell ⟨r + 1, 1, none⟩ (.string s)) r 45 #[.string ⟨#[]⟩, .slice none 0 0, .slice none 0 0, .slice none 0 0, .slice none 0 0, .slice none 0 0, .slice none 0 0, .slice none 0 0, .slice none 0 0, .slice none 0 0, .slice none 0 0, .bool false, .bool false, .bool false, .bool false, .bool false] ∧
   Blk (((sto16 w r (.string ⟨#[]⟩) (.slice none 0 0) (.slice none 0 0) (.slice none 0 0) (.slice none 0 0) (.slice none 0 0) (.slice none 0 0) (.slice none 0 0) (.slice none 0 0) (.slice none 0 0) (.slice none 0 0) (.bool false) (.bool false) (.bool false) (.bool false) (.bool false)).setCell ⟨r + 1, 0, none⟩ (.int .i64 k)).setCell ⟨r + 1, 1, none⟩ (.string s)) (r + 1) 42 #[.int .i64 k, .string s] ∧
   Below w0.heap.size w0 (((sto16 w r (.string ⟨#[]⟩) (.slice none 0 0) (.slice none 0 0) (.slice none 0 0) (.slice none 0 0) (.slice none 0 0) (.slice none 0 0) (.slice none 0 0) (.slice none 0 0) (.slice none 0 0) (.slice none 0 0) (.bool false) (.bool false) (.bool false) (.bool false) (.bool false)).setCell ⟨r + 1, 0, none⟩ (.int .i64 k)).setCell ⟨r + 1, 1, none⟩ (.string s)) := by
 have h1 := sto16_blk hR (.string ⟨#[]⟩) (.slice none 0 0) (.slice none 0 0) (.slice none 0 0) (.slice none 0 0) (.slice none 0 0) (.slice none 0 0) (.slice none 0 0) (.slice none 0 0) (.slice none 0 0) (.slice none 0 0) (.bool false) (.bool false) (.bool false) (.bool false) (.bool false)
 have h2 := sto16_far hE (by omega : r + 1 ≠ r) (.string ⟨#[]⟩) (.slice none 0 0) (.slice none 0 0) (.slice none 0 0) (.slice none 0 0) (.slice none 0 0) (.slice none 0 0) (.slice none 0 0) (.slice none 0 0) (.slice none 0 0) (.slice none 0 0) (.bool false) (.bool false) (.bool false) (.bool false) (.bool false)
 have h3 := sto16_bel hb hr (.string ⟨#[]⟩) (.slice none 0 0) (.slice none 0 0) (.slice none 0 0) (.slice none 0 0) (.slice none 0 0) (.slice none 0 0) (.slice none 0 0) (.slice none 0 0) (.slice none 0 0) (.slice none 0 0) (.bool false) (.bool false) (.bool false) (.bool false) (.bool false)
 refine ⟨(h1.far (p := ⟨r + 1, 0, none⟩) (by show r ≠ r + 1; omega) _).far (p := ⟨r + 1, 1, none⟩) (by show r ≠ r + 1; omega) _, ?_, (h3.setCell (p := ⟨r + 1, 0, none⟩) (by show _ ≤ r + 1; omega) _).setCell (p := ⟨r + 1, 1, none⟩) (by show _ ≤ r + 1; omega) _⟩
 have := (h2.set_ 0 (.int .i64 k)).set_ 1 (.string s)
 simpa using this
def sto8 (w : World) (g : Nat) (v1 v2 v3 v4 v5 v6 v7 v8 : Value) : World := ((((((((w.setCell ⟨g, 1, none⟩ v1).setCell ⟨g, 2, none⟩ v2).setCell ⟨g, 3, none⟩ v3).setCell ⟨g, 4, none⟩ v4).setCell ⟨g, 5, none⟩ v5).setCell ⟨g, 6, none⟩ v6).setCell ⟨g, 7, none⟩ v7).setCell ⟨g, 8, none⟩ v8)
theorem sto8_blk {w : World} {r : Nat} {t : TypeId} {o0 o1 o2 o3 o4 o5 o6 o7 o8 o9 o10 o11 o12 o13 o14 o15 : Value} (h : Blk w r t #[o0, o1, o2, o3, o4, o5, o6, o7, o8, o9, o10, o11, o12, o13, o14, o15]) (v1 v2 v3 v4 v5 v6 v7 v8 : Value) : Blk (sto8 w r v1 v2 v3 v4 v5 v6 v7 v8) r t #[o0, v1, v2, v3, v4, v5, v6, v7, v8, o9, o10, o11, o12, o13, o14, o15] := fin8o h v1 v2 v3 v4 v5 v6 v7 v8
theorem sto8_bel {B : Nat} {w0 w : World} {r : Nat} (h : Below B w0 w) (hr : B ≤ r) (v1 v2 v3 v4 v5 v6 v7 v8 : Value) : Below B w0 (sto8 w r v1 v2 v3 v4 v5 v6 v7 v8) := bel8o h hr v1 v2 v3 v4 v5 v6 v7 v8
set_option maxHeartbeats 4000000 in
theorem stoP8 {x y : Operand} {g : Nat} {o0 o1 o2 o3 o4 o5 o6 o7 o8 o9 o10 o11 o12 o13 o14 o15 : Value} {B0 B1 B2 B3 B4 B5 B6 B7 : Option Addr} {u0 u1 u2 u3 u4 u5 u6 u7 k0 k1 k2 k3 k4 k5 k6 k7 : Nat} (o : Oper) (ho : o.op = .store 24 x y) (ρ : Operand → Value) (hρ : ρ x = .pointer (some ⟨g, 1, none⟩)) (hρ2 : ρ y = .agg #[.slice B0 u0 k0, .slice B1 u1 k1, .slice B2 u2 k2, .slice B3 u3 k3, .slice B4 u4 k4, .slice B5 u5 k5, .slice B6 u6 k6, .slice B7 u7 k7]) (w : World) (hb : Blk w g 45 #[o0, o1, o2, o3, o4, o5, o6, o7, o8, o9, o10, o11, o12, o13, o14, o15]) :
  (execOp ρ o).run Tryz.prog w = .ok .skip (sto8 w g (.slice B0 u0 k0) (.slice B1 u1 k1) (.slice B2 u2 k2) (.slice B3 u3 k3) (.slice B4 u4 k4) (.slice B5 u5 k5) (.slice B6 u6 k6) (.slice B7 u7 k7)) := by
 obtain ⟨d, op, t, p, af, gd⟩ := o
 simp only at ho
 subst ho
 have c1 := hb.cell 1
 have f1 := hb.frozen 1
 have c2 := hb.cell 2
 have f2 := hb.frozen 2
 have c3 := hb.cell 3
 have f3 := hb.frozen 3
 have c4 := hb.cell 4
 have f4 := hb.frozen 4
 have c5 := hb.cell 5
 have f5 := hb.frozen 5
 have c6 := hb.cell 6
 have f6 := hb.frozen 6
 have c7 := hb.cell 7
 have f7 := hb.frozen 7
 have c8 := hb.cell 8
 have f8 := hb.frozen 8
 simp at c1 c2 c3 c4 c5 c6 c7 c8
 clear hb
 unfold sto8
 go_simp
theorem callPl {x : Operand} {u : Value} {ts : Array TypeId} (o : Oper) (ho : o.op = .call { callee := .value (.func 56), args := #[x], argTypes := ts }) (a : Act) (hx : a.eval x = u) (w : World) : (execOp a.eval o).run Tryz.prog w = .ok (.enter 56 #[u]) w := by
 obtain ⟨d, op, t, p, af, gd⟩ := o
 simp only at ho
 subst ho
 have h1 : a.eval (.func 56) = .func (.func 56) #[] #[] := rfl
 subst hx
 go_simp
theorem NewC.tak {lo : Nat} {W : World} {A : Option Addr} {c k : Nat} : ∀ (d : Nat) {l : List (List UInt8)}, l.length = k + d → NewC lo W (.slice A l.length c) l → NewC lo W (.slice A k c) (l.take k)
 | 0, l, e, h => by
  have e2 : l.length = k := e
  rw [List.take_of_length_le (by omega)]
  rwa [e2] at h
 | d + 1, l, e, h => by
  have e2 : l.length = (k + d) + 1 := by omega
  rw [e2] at h
  obtain ⟨_, h2⟩ := h.pre
  have e3 : l.dropLast.length = k + d := by rw [List.length_dropLast]; omega
  rw [← e3] at h2
  have h4 := NewC.tak d e3 h2
  rwa [List.dropLast_eq_take, List.take_take, Nat.min_eq_left (by omega)] at h4
theorem plainM_take (l : List (List UInt8)) : l.take (plainM l).length = plainM l := (List.prefix_iff_eq_take.1 (List.takeWhile_prefix _)).symm
theorem plainM_le (l : List (List UInt8)) : (plainM l).length ≤ l.length := (List.takeWhile_prefix _).length_le
theorem NewC.plain {lo : Nat} {W : World} {A : Option Addr} {c : Nat} {l : List (List UInt8)} (h : NewC lo W (.slice A l.length c) l) : NewC lo W (.slice A (plainM l).length c) (plainM l) := by
 have h2 := NewC.tak (k := (plainM l).length) (l.length - (plainM l).length) (by have := plainM_le l; omega) h
 rwa [plainM_take] at h2
theorem parI_all {lo : Nat} {ad : Addr} {ck : List UInt8} {l1 l2 l3 l4 l5 l6 l7 l8 l9 l10 : List (List UInt8)} {f u : Int} {b0 b1 b2 b3 b4 b5 b6 b7 b8 b9 b10 b11 b12 : Option Addr} {d0 d1 d2 d3 d4 d5 d6 d7 d8 d9 d10 d11 d12 : Nat} {W : World} (h : ParI lo ad (kexFs ck [l1, l2, l3, l4, l5, l6, l7, l8, l9, l10] f u) [.slice b0 0 d0, .slice b1 l1.length d1, .slice b2 l2.length d2, .slice b3 l3.length d3, .slice b4 l4.length d4, .slice b5 l5.length d5, .slice b6 l6.length d6, .slice b7 l7.length d7, .slice b8 l8.length d8, .slice b9 l9.length d9, .slice b10 l10.length d10, .slice b11 0 d11, .slice b12 0 d12] W) (hl : ∀ k ∈ [l1, l2, l3, l4, l5, l6, l7, l8, l9, l10], k.length ≤ 1000000) :
  ∀ (i : Nat) v l, ([.slice b1 (plainM l1).length d1, .slice b2 l2.length d2, .slice b3 l3.length d3, .slice b4 l4.length d4, .slice b5 l5.length d5, .slice b6 l6.length d6, .slice b7 l7.length d7, .slice b8 l8.length d8, .slice b9 l9.length d9, .slice b10 l10.length d10] : List Value)[i]? = some v → ([plainM l1, l2, l3, l4, l5, l6, l7, l8, l9, l10] : List (List (List UInt8)))[i]? = some l → NewC lo W v l ∧ l.length ≤ 1000000 := by
 intro i v l h1 h2
 match i, h1, h2 with
 | 0, h1, h2 => cases h1; cases h2; exact ⟨(h.at_ 1 _ _ rfl rfl).2.plain, Nat.le_trans (plainM_le l1) (hl l1 (by simp))⟩
 | 1, h1, h2 => cases h1; cases h2; exact ⟨(h.at_ 2 _ _ rfl rfl).2, hl l2 (by simp)⟩
 | 2, h1, h2 => cases h1; cases h2; exact ⟨(h.at_ 3 _ _ rfl rfl).2, hl l3 (by simp)⟩
 | 3, h1, h2 => cases h1; cases h2; exact ⟨(h.at_ 4 _ _ rfl rfl).2, hl l4 (by simp)⟩
 | 4, h1, h2 => cases h1; cases h2; exact ⟨(h.at_ 5 _ _ rfl rfl).2, hl l5 (by simp)⟩
 | 5, h1, h2 => cases h1; cases h2; exact ⟨(h.at_ 6 _ _ rfl rfl).2, hl l6 (by simp)⟩
 | 6, h1, h2 => cases h1; cases h2; exact ⟨(h.at_ 7 _ _ rfl rfl).2, hl l7 (by simp)⟩
 | 7, h1, h2 => cases h1; cases h2; exact ⟨(h.at_ 8 _ _ rfl rfl).2, hl l8 (by simp)⟩
 | 8, h1, h2 => cases h1; cases h2; exact ⟨(h.at_ 9 _ _ rfl rfl).2, hl l9 (by simp)⟩
 | 9, h1, h2 => cases h1; cases h2; exact ⟨(h.at_ 10 _ _ rfl rfl).2, hl l10 (by simp)⟩
 | q + 10, h1, _ => simp at h1
theorem allC_of {lo : Nat} {W : World} {vs : List Value} {ls : List (List (List UInt8))} (e : vs.length = ls.length) (h : ∀ (i : Nat) v l, vs[i]? = some v → ls[i]? = some l → NewC lo W v l ∧ l.length ≤ 1000000) : AllC W vs ls :=
 ⟨e, fun i v l h1 h2 => ⟨(h i v l h1 h2).1.txc, (h i v l h1 h2).2⟩⟩
theorem rp_szL {p : List UInt8} (hp : p.length ≤ 2000) {l : List Fld} {n : Nat} (h : decS p = .ok n l) : ∀ x ∈ l, SzF x := by
 obtain ⟨cc, rr, hp2, hn2, hpl2, hff⟩ := decS_get h
 obtain ⟨f0, hf0, hrd⟩ := firstF_get hff
 obtain ⟨hk1, hk2, hk3⟩ := readFs_get hrd
 exact fld_sz hk2 (by
  rw [← hk3]
  have h1 := congrArg List.length hp2
  simp only [List.length_cons] at h1
  omega)
theorem rp_sz {p : List UInt8} (hp : p.length ≤ 2000) {ck : List UInt8} {l1 l2 l3 l4 l5 l6 l7 l8 l9 l10 : List (List UInt8)} {f u : Int} (h : decS p = .ok 20 (kexFs ck [l1, l2, l3, l4, l5, l6, l7, l8, l9, l10] f u)) (hf : f = 0 ∨ f = 1) :
  ∀ x ∈ kexMsg ⟨ck, plainM l1, [l2, l3, l4, l5, l6, l7, l8, l9, l10], decide (mark0 ∈ l1), decide (mark1 ∈ l1), decide (mark2 ∈ l1), decide (mark3 ∈ l1), (f == 1)⟩, SzF x := by
 have hsz := rp_szL hp h
 have hlen := dec_len h
 intro x hx
 have hx2 : x ∈ kexMsg (kexRef ck l1 [l2, l3, l4, l5, l6, l7, l8, l9, l10] f) := hx
 rw [kexMsg_ref hf] at hx2
 unfold kexFs at hx2
 rcases List.mem_cons.1 hx2 with rfl | hx2
 ·exact hsz _ (by simp [kexFs])
 ·rcases List.mem_append.1 hx2 with hx2 | hx2
  ·obtain ⟨q, hq, rfl⟩ := List.mem_map.1 hx2
   rcases List.mem_cons.1 hq with rfl | hq
   ·have h1 := hsz ⟨110, 0, [], l1⟩ (by simp [kexFs])
    have h2 := hlen ⟨110, 0, [], l1⟩ (by simp [kexFs])
    have h3 : l1.length ≤ 16 := h2
    have h4 := plainM_le l1
    have hm4 : (marksOf (decide (mark0 ∈ l1)) (decide (mark1 ∈ l1)) (decide (mark2 ∈ l1)) (decide (mark3 ∈ l1))).length ≤ 4 := by
     have := preM_len (decide (mark0 ∈ l1)) (decide (mark1 ∈ l1)) (decide (mark2 ∈ l1)) (decide (mark3 ∈ l1)) 4
     rwa [preM_4] at this
    refine ⟨by simp, ?_, fun y hy => ?_⟩
    ·show (rebM l1).length ≤ 1000
     unfold rebM
     rw [List.length_append]
     omega
    ·have hy2 : y ∈ rebM l1 := hy
     unfold rebM at hy2
     rcases List.mem_append.1 hy2 with hy2 | hy2
     ·exact h1.l y ((List.takeWhile_sublist _).subset hy2)
     ·rcases isMark_of.1 (marks_are y hy2) with rfl | rfl | rfl | rfl <;> decide
   ·exact hsz ⟨110, 0, [], q⟩ (by unfold kexFs; exact List.mem_cons_of_mem _ (List.mem_append_left _ (List.mem_map.2 ⟨q, List.mem_cons_of_mem _ hq, rfl⟩)))
  ·simp only [List.mem_cons, List.mem_nil_iff, or_false] at hx2
   rcases hx2 with rfl | rfl
   ·exact ⟨by simp, by simp, fun y hy => by cases hy⟩
   ·exact ⟨by simp, by simp, fun y hy => by cases hy⟩
theorem rp_yes {p : List UInt8} (hp : p.length ≤ 2000) {ck : List UInt8} {l1 l2 l3 l4 l5 l6 l7 l8 l9 l10 : List (List UInt8)} {f u : Int} (h : decS p = .ok 20 (kexFs ck [l1, l2, l3, l4, l5, l6, l7, l8, l9, l10] f u)) (hf : f = 0 ∨ f = 1) {s : List UInt8} (hs : encS 20 (kexMsg ⟨ck, plainM l1, [l2, l3, l4, l5, l6, l7, l8, l9, l10], decide (mark0 ∈ l1), decide (mark1 ∈ l1), decide (mark2 ∈ l1), decide (mark3 ∈ l1), (f == 1)⟩) = .ok s) :
  (s = p ∧ markedL (splitM l1).rest = false ∧ u = 0) ∨ (s ≠ p ∧ (markedL (splitM l1).rest = true ∨ u ≠ 0)) := by
 have hs2 : encS 20 (kexMsg (kexRef ck l1 [l2, l3, l4, l5, l6, l7, l8, l9, l10] f)) = .ok s := hs
 by_cases hm : markedL (splitM l1).rest = false ∧ u = 0
 ·obtain ⟨hm, rfl⟩ := hm
  have h2 := (ref_yes h hf hm).2
  rw [h2] at hs2
  injection hs2 with h3
  exact .inl ⟨h3.symm, hm, rfl⟩
 ·have hor : markedL (splitM l1).rest = true ∨ u ≠ 0 := by
   cases hmm : markedL (splitM l1).rest with
   | true => exact .inl rfl
   | false => exact .inr fun hu => hm ⟨hmm, hu⟩
  refine .inr ⟨fun e => ?_, hor⟩
  subst e
  exact ref_no rfl (fun y hy => by
   have h1 := rp_szL hp h y hy
   exact ⟨by have := h1.s; omega, fun z hz => by have := h1.l z hz; omega⟩) h hf hor hs2
theorem rp_no {p : List UInt8} {ck : List UInt8} {l1 l2 l3 l4 l5 l6 l7 l8 l9 l10 : List (List UInt8)} {f u : Int} (h : decS p = .ok 20 (kexFs ck [l1, l2, l3, l4, l5, l6, l7, l8, l9, l10] f u)) (hf : f = 0 ∨ f = 1) {ps : List (List UInt8)} {k : Nat} (hk : kexErr (plainM l1) (encS 20 (kexMsg ⟨ck, plainM l1, [l2, l3, l4, l5, l6, l7, l8, l9, l10], decide (mark0 ∈ l1), decide (mark1 ∈ l1), decide (mark2 ∈ l1), decide (mark3 ∈ l1), (f == 1)⟩)) = some (ps, k)) :
  markedL (splitM l1).rest = true ∨ u ≠ 0 := by
 cases hmm : markedL (splitM l1).rest with
 | true => exact .inl rfl
 | false =>
  refine .inr fun hu => ?_
  subst hu
  have h2 := (ref_yes h hf hmm).2
  have h3 : encS 20 (kexMsg ⟨ck, plainM l1, [l2, l3, l4, l5, l6, l7, l8, l9, l10], decide (mark0 ∈ l1), decide (mark1 ∈ l1), decide (mark2 ∈ l1), decide (mark3 ∈ l1), (f == 1)⟩) = .ok p := h2
  unfold kexErr at hk
  rw [plainM_marked, if_neg (by decide), h3] at hk
  cases hk
theorem rok_fin {w0 w : World} {r : Nat} {o0 o1 o2 o3 o4 o5 o6 o7 o8 o9 o10 o11 o12 o13 o14 o15 : Value} (v0 v1 v2 v3 v4 v5 v6 v7 v8 v9 v10 v11 v12 v13 v14 v15 : Value) (hR : Blk w r 45 #[o0, o1, o2, o3, o4, o5, o6, o7, o8, o9, o10, o11, o12, o13, o14, o15]) (hE : Blk w (r + 1) 42 #[.int .i64 0, .string ⟨#[]⟩]) (hb : Below w0.heap.size w0 w) (hr : w0.heap.size ≤ r) :
  Blk (((sto16 w r v0 v1 v2 v3 v4 v5 v6 v7 v8 v9 v10 v11 v12 v13 v14 v15).setCell ⟨r + 1, 0, none⟩ (.int .i64 0)).setCell ⟨r + 1, 1, none⟩ (.string ⟨#[]⟩)) r 45 #[v0, v1, v2, v3, v4, v5, v6, v7, v8, v9, v10, v11, v12, v13, v14, v15] ∧
   Blk (((sto16 w r v0 v1 v2 v3 v4 v5 v6 v7 v8 v9 v10 v11 v12 v13 v14 v15).setCell ⟨r + 1, 0, none⟩ (.int .i64 0)).setCell ⟨r + 1, 1, none⟩ (.string ⟨#[]⟩)) (r + 1) 42 #[.int .i64 0, .string ⟨#[]⟩] ∧
   Below w0.heap.size w0 (((sto16 w r v0 v1 v2 v3 v4 v5 v6 v7 v8 v9 v10 v11 v12 v13 v14 v15).setCell ⟨r + 1, 0, none⟩ (.int .i64 0)).setCell ⟨r + 1, 1, none⟩ (.string ⟨#[]⟩)) := by
 have h1 := sto16_blk hR v0 v1 v2 v3 v4 v5 v6 v7 v8 v9 v10 v11 v12 v13 v14 v15
 have h2 := sto16_far hE (by omega : r + 1 ≠ r) v0 v1 v2 v3 v4 v5 v6 v7 v8 v9 v10 v11 v12 v13 v14 v15
 have h3 := sto16_bel hb hr v0 v1 v2 v3 v4 v5 v6 v7 v8 v9 v10 v11 v12 v13 v14 v15
 refine ⟨(h1.far (p := ⟨r + 1, 0, none⟩) (by show r ≠ r + 1; omega) _).far (p := ⟨r + 1, 1, none⟩) (by show r ≠ r + 1; omega) _, ?_, (h3.setCell (p := ⟨r + 1, 0, none⟩) (by show _ ≤ r + 1; omega) _).setCell (p := ⟨r + 1, 1, none⟩) (by show _ ≤ r + 1; omega) _⟩
 have := (h2.set_ 0 (.int .i64 0)).set_ 1 (.string ⟨#[]⟩)
 simpa using this
theorem rok_new {lo : Nat} {w : World} {r : Nat} {v : Value} {l : List (List UInt8)} (h : NewC lo w v l) (hr : r + 1 < lo) (v0 v1 v2 v3 v4 v5 v6 v7 v8 v9 v10 v11 v12 v13 v14 v15 : Value) : NewC lo (((sto16 w r v0 v1 v2 v3 v4 v5 v6 v7 v8 v9 v10 v11 v12 v13 v14 v15).setCell ⟨r + 1, 0, none⟩ (.int .i64 0)).setCell ⟨r + 1, 1, none⟩ (.string ⟨#[]⟩)) v l :=
 ((sto16_new h (by omega) v0 v1 v2 v3 v4 v5 v6 v7 v8 v9 v10 v11 v12 v13 v14 v15).set_ (p := ⟨r + 1, 0, none⟩) hr _).set_ (p := ⟨r + 1, 1, none⟩) hr _
set_option maxHeartbeats 40000000 in
set_option maxRecDepth 100000 in
theorem rparse16_a {w : World} (pl : ByteArray) (hpl : pl.size ≤ 2000) (hok : ∀ n l, decS pl.data.toList ≠ .ok n l) : Calls Tryz.prog 20 #[.string pl] w (RParP pl.data.toList w) := by
 obtain ⟨W0, hW0⟩ : ∃ W0, W0 = (w.alloc (.cells #[.string ⟨#[]⟩, .slice none 0 0, .slice none 0 0, .slice none 0 0, .slice none 0 0, .slice none 0 0, .slice none 0 0, .slice none 0 0, .slice none 0 0, .slice none 0 0, .slice none 0 0, .bool false, .bool false, .bool false, .bool false, .bool false] 45)).alloc (.cells #[.int .i64 0, .string ⟨#[]⟩] 42) := ⟨_, rfl⟩
 have hb0 : Below w.heap.size w W0 := by rw [hW0]; (repeat (first | exact Below.refl _ _ | refine below_drewN ?_ _ | refine Below.drew ?_ | refine Below.alloc ?_ (by first | omega | (simp; done) | (simp; omega)) _ | refine Below.setCell ?_ (by first | omega | (simp; done) | (simp; omega)) _ | refine bel_alloc ?_ _ | refine bel_trans ?_ (by assumption) | refine Below.trans ?_ (Below.mono (by assumption) (by first | omega | (simp; done) | (simp; omega)))))
 have hR0 : Blk W0 w.heap.size 45 #[.string ⟨#[]⟩, .slice none 0 0, .slice none 0 0, .slice none 0 0, .slice none 0 0, .slice none 0 0, .slice none 0 0, .slice none 0 0, .slice none 0 0, .slice none 0 0, .slice none 0 0, .bool false, .bool false, .bool false, .bool false, .bool false] := by rw [hW0]; exact (Blk.new w _ _).alloc _
 have hE0 : Blk W0 (w.heap.size + 1) 42 #[.int .i64 0, .string ⟨#[]⟩] := by rw [hW0]; exact blk_new2 w _ _ _
 have HD := hide (rdecode_anyN (w := W0) pl (by omega))
 have HX := hide (And.intro hb0 (And.intro hR0 hE0))
 have HOK := hide hok
 have Hpl := hide hpl
 clear hb0 hR0 hE0 hok hpl
 go_enter Tryz.func20, Tryz.ntmps20
 go_upto_region 1 with fail
 rw [← hW0]
 clear hW0
 go_wp2_with fail
 refine HD.out.mono ?_
 rintro e w1 ⟨hb1, hr1⟩
 have hb01 := HX.out.1.trans (hb1.mono HX.out.1.size)
 have hR1 := HX.out.2.1.below hb1 HX.out.2.1.lt
 have hE1 := HX.out.2.2.below hb1 HX.out.2.2.lt
 have HS := hide (And.intro hb01 (And.intro hR1 hE1))
 clear HD hb1 hb01 hR1 hE1
 rcases hr1 with ⟨num, l, A, c, hd, rfl, hF⟩ | ⟨ps, k, hk, hk0, rfl⟩
 ·obtain ⟨W5, hW5⟩ : ∃ W5, W5 = (w1.alloc (.cells #[.int .i64 (num : Nat), .slice A l.length c] 86)).alloc (.cells #[.int .i64 0, .string ⟨#[]⟩] 42) := ⟨_, rfl⟩
  have hb15 : Below w1.heap.size w1 W5 := by rw [hW5]; (repeat (first | exact Below.refl _ _ | refine below_drewN ?_ _ | refine Below.drew ?_ | refine Below.alloc ?_ (by first | omega | (simp; done) | (simp; omega)) _ | refine Below.setCell ?_ (by first | omega | (simp; done) | (simp; omega)) _ | refine bel_alloc ?_ _ | refine bel_trans ?_ (by assumption) | refine Below.trans ?_ (Below.mono (by assumption) (by first | omega | (simp; done) | (simp; omega)))))
  have hM5 : Blk W5 w1.heap.size 86 #[.int .i64 (num : Nat), .slice A l.length c] := by rw [hW5]; exact (Blk.new w1 _ _).alloc _
  have hE5 : Blk W5 (w1.heap.size + 1) 42 #[.int .i64 0, .string ⟨#[]⟩] := by rw [hW5]; exact blk_new2 w1 _ _ _
  go_upto_region 2 with fail
  rw [← hW5]
  clear hW5
  have e0c := hE5.cell 0
  have m0 := hM5.cell 0
  have m1 := hM5.cell 1
  simp at e0c m0 m1
  by_cases hn : num = 20
  ·subst hn
   exact absurd hd (HOK.out 20 l)
  ·exact absurd hd (HOK.out num l)
 ·obtain ⟨W5, hW5⟩ : ∃ W5, W5 = (w1.alloc (.cells #[.int .i64 0, .slice none 0 0] 86)).alloc (.cells #[.int .i64 k, .string (bs (atL ps))] 42) := ⟨_, rfl⟩
  have hb15 : Below w1.heap.size w1 W5 := by rw [hW5]; (repeat (first | exact Below.refl _ _ | refine below_drewN ?_ _ | refine Below.drew ?_ | refine Below.alloc ?_ (by first | omega | (simp; done) | (simp; omega)) _ | refine Below.setCell ?_ (by first | omega | (simp; done) | (simp; omega)) _ | refine bel_alloc ?_ _ | refine bel_trans ?_ (by assumption) | refine Below.trans ?_ (Below.mono (by assumption) (by first | omega | (simp; done) | (simp; omega)))))
  have hE5 : Blk W5 (w1.heap.size + 1) 42 #[.int .i64 k, .string (bs (atL ps))] := by rw [hW5]; exact blk_new2 w1 _ _ _
  go_upto_region 2 with fail
  rw [← hW5]
  clear hW5
  have HE := hide (show ParE (decS pl.data.toList) (kexB :: ps) k from .inl ⟨ps, hk, rfl⟩)
  have hps := decErr_ok hk
  have HAT := hide (show bs (atL (kexB :: ps)) = (⟨#[107, 101, 120, 105, 110, 105, 116, 32]⟩ : ByteArray) ++ bs (atL ps) from (bs_eq (by rw [data_append, atL_cons, bs_data]; rfl)).symm)
  have hapl : (bs (atL ps)).size ≤ 3003 := Nat.le_trans (atL_len hps.2) (by have := hps.1; omega)
  have HK0 := hide hk0
  have hx1 : ((k : Int) == 0) = false := by rw [beq_eq_false_iff_ne]; omega
  have hx2 : ((k : Int) != 0) = true := by simp [bne, hx1]
  have hRz := HS.out.2.1.below hb15 HS.out.2.1.lt
  have hEz := HS.out.2.2.below hb15 HS.out.2.2.lt
  have hbz := HS.out.1.trans (hb15.mono HS.out.1.size)
  have e0c := hE5.cell 0
  simp at e0c
  clear hk hps hb15 hk0
  generalize bs (atL ps) = ap at HAT hapl hE5
  go_upto_region 3 with fail
  refine wp_region_E (fun W => Blk W (w1.heap.size + 1) 42 #[.int .i64 k, .string ap]) (fun i => [2, 4, 5, 6, 7].contains i) (by kernel_rfl) ?_
  have hap2 : 8 + ap.size ≤ 9223372036854775807 := by omega
  obtain ⟨Wd, hWd⟩ : ∃ Wd, Wd = W5.drew := ⟨_, rfl⟩
  have hSd : Blk Wd (w1.heap.size + 1) 42 #[.int .i64 k, .string ap] := by rw [hWd]; exact hE5
  have hRd : Blk Wd w.heap.size 45 #[.string ⟨#[]⟩, .slice none 0 0, .slice none 0 0, .slice none 0 0, .slice none 0 0, .slice none 0 0, .slice none 0 0, .slice none 0 0, .slice none 0 0, .slice none 0 0, .slice none 0 0, .bool false, .bool false, .bool false, .bool false, .bool false] := by rw [hWd]; exact hRz
  have hEd : Blk Wd (w.heap.size + 1) 42 #[.int .i64 0, .string ⟨#[]⟩] := by rw [hWd]; exact hEz
  have hbd : Below w.heap.size w Wd := by rw [hWd]; exact hbz.drew
  rw [← hWd]
  clear hWd
  have hebr : w1.heap.size + 1 ≠ w.heap.size := by have := HS.out.1.size; omega
  refine wpAnyE_takeY (i := 0) (oi := ?_) (v := .agg #[.string ⟨#[]⟩, .slice none 0 0, .slice none 0 0, .slice none 0 0, .slice none 0 0, .slice none 0 0, .slice none 0 0, .slice none 0 0, .slice none 0 0, .slice none 0 0, .slice none 0 0, .bool false, .bool false, .bool false, .bool false, .bool false]) ?_ ?_ ?_ ?_ ?_ ?_ ?_ ?_
  rotate_left 1
  ·(try simp only [List.getElem?_toArray, List.getElem?_cons_succ, List.getElem?_cons_zero]); exact rfl
  ·kernel_rfl
  ·kernel_rfl
  ·kernel_rfl
  ·rfl
  ·exact fun _ _ _ h => h
  ·exact Or.inl ⟨by rfl, fun w _ => by go_simp⟩
  try simp only [Act.put, List.setIfInBounds_toArray, List.set_cons_zero, List.set_cons_succ]
  refine wpAnyE_takeY (i := 1) (oi := ?_) (v := .pointer (some ⟨w1.heap.size + 1, 0, none⟩)) ?_ ?_ ?_ ?_ ?_ ?_ ?_ ?_
  rotate_left 1
  ·(try simp only [List.getElem?_toArray, List.getElem?_cons_succ, List.getElem?_cons_zero]); exact rfl
  ·kernel_rfl
  ·kernel_rfl
  ·kernel_rfl
  ·rfl
  ·exact fun _ _ _ h => h
  ·exact Or.inl ⟨by rfl, fun w _ => by go_simp⟩
  try simp only [Act.put, List.setIfInBounds_toArray, List.set_cons_zero, List.set_cons_succ]
  refine wpAnyE_takeY (i := 3) (oi := ?_) (v := .pointer (some ⟨w1.heap.size + 1, 1, none⟩)) ?_ ?_ ?_ ?_ ?_ ?_ ?_ ?_
  rotate_left 1
  ·(try simp only [List.getElem?_toArray, List.getElem?_cons_succ, List.getElem?_cons_zero]); exact rfl
  ·kernel_rfl
  ·kernel_rfl
  ·kernel_rfl
  ·rfl
  ·exact fun _ _ _ h => h
  ·exact Or.inl ⟨by rfl, fun w _ => by go_simp⟩
  try simp only [Act.put, List.setIfInBounds_toArray, List.set_cons_zero, List.set_cons_succ]
  refine wpAnyE_take (i := 2) (oi := ?_) (v := .int .i64 k) ?_ ?_ ?_ ?_ ?_ ?_ ?_ hSd ?_
  rotate_left 1
  ·(try simp only [List.getElem?_toArray, List.getElem?_cons_succ, List.getElem?_cons_zero]); exact rfl
  ·kernel_rfl
  ·kernel_rfl
  ·kernel_rfl
  ·kernel_rfl
  ·exact fun _ _ _ h => h
  ·refine Or.inl ⟨by rfl, fun w hSw => ?_⟩
   have k0 := hSw.cell 0
   simp at k0
   clear hSw
   go_simp
  try simp only [Act.put, List.setIfInBounds_toArray, List.set_cons_zero, List.set_cons_succ]
  refine wpAnyE_take (i := 4) (oi := ?_) (v := .string ap) ?_ ?_ ?_ ?_ ?_ ?_ ?_ hSd ?_
  rotate_left 1
  ·(try simp only [List.getElem?_toArray, List.getElem?_cons_succ, List.getElem?_cons_zero]); exact rfl
  ·kernel_rfl
  ·kernel_rfl
  ·kernel_rfl
  ·kernel_rfl
  ·exact fun _ _ _ h => h
  ·refine Or.inl ⟨by rfl, fun w hSw => ?_⟩
   have k0 := hSw.cell 1
   simp at k0
   clear hSw
   go_simp
  try simp only [Act.put, List.setIfInBounds_toArray, List.set_cons_zero, List.set_cons_succ]
  refine wpAnyE_take (i := 5) (oi := ?_) (v := .string (⟨#[107, 101, 120, 105, 110, 105, 116, 32]⟩ ++ ap)) ?_ ?_ ?_ ?_ ?_ ?_ ?_ hSd ?_
  rotate_left 1
  ·(try simp only [List.getElem?_toArray, List.getElem?_cons_succ, List.getElem?_cons_zero]); exact rfl
  ·kernel_rfl
  ·kernel_rfl
  ·kernel_rfl
  ·kernel_rfl
  ·exact fun _ _ _ h => h
  ·refine Or.inl ⟨by rfl, fun w hSw => ?_⟩
   clear hSw
   go_simp
  try simp only [Act.put, List.setIfInBounds_toArray, List.set_cons_zero, List.set_cons_succ]
  refine wpAnyE_take (i := 6) (oi := ?_) (v := .agg #[.int .i64 k, .string (⟨#[107, 101, 120, 105, 110, 105, 116, 32]⟩ ++ ap)]) ?_ ?_ ?_ ?_ ?_ ?_ ?_ hSd ?_
  rotate_left 1
  ·(try simp only [List.getElem?_toArray, List.getElem?_cons_succ, List.getElem?_cons_zero]); exact rfl
  ·kernel_rfl
  ·kernel_rfl
  ·kernel_rfl
  ·kernel_rfl
  ·exact fun _ _ _ h => h
  ·refine Or.inl ⟨by rfl, fun w hSw => ?_⟩
   clear hSw
   go_simp
  try simp only [Act.put, List.setIfInBounds_toArray, List.set_cons_zero, List.set_cons_succ]
  refine wpAnyE_ready (rs := [7]) (by kernel_rfl) (by simp) ?_
  refine AllReadyE.cons (o := ?_) ?_ (fun K hK => ?_) AllReadyE.nil
  rotate_left 1
  ·(try simp only [List.getElem?_toArray, List.getElem?_cons_succ, List.getElem?_cons_zero]); exact rfl
  refine step_skipA rfl (stoI (x := .tmp 2) (y := .tmp 18) (s := ⟨#[]⟩) (b := false) _ rfl _ (by rfl) (by rfl) _ hRd) ?_
  refine hK.out _ _ (sto16_far hSd hebr (.string ⟨#[]⟩) (.slice none 0 0) (.slice none 0 0) (.slice none 0 0) (.slice none 0 0) (.slice none 0 0) (.slice none 0 0) (.slice none 0 0) (.slice none 0 0) (.slice none 0 0) (.slice none 0 0) (.bool false) (.bool false) (.bool false) (.bool false) (.bool false)) (fun _ => ?_)
  clear hK K
  try simp only [Act.put, List.setIfInBounds_toArray, List.set_cons_zero, List.set_cons_succ]
  obtain ⟨wS, hwS⟩ : ∃ wS, wS = sto16 Wd w.heap.size (.string ⟨#[]⟩) (.slice none 0 0) (.slice none 0 0) (.slice none 0 0) (.slice none 0 0) (.slice none 0 0) (.slice none 0 0) (.slice none 0 0) (.slice none 0 0) (.slice none 0 0) (.slice none 0 0) (.bool false) (.bool false) (.bool false) (.bool false) (.bool false) := ⟨_, rfl⟩
  rw [← hwS]
  have hES : Blk wS (w.heap.size + 1) 42 #[.int .i64 0, .string ⟨#[]⟩] := by rw [hwS]; exact sto16_far hEd (by omega) (.string ⟨#[]⟩) (.slice none 0 0) (.slice none 0 0) (.slice none 0 0) (.slice none 0 0) (.slice none 0 0) (.slice none 0 0) (.slice none 0 0) (.slice none 0 0) (.slice none 0 0) (.slice none 0 0) (.bool false) (.bool false) (.bool false) (.bool false) (.bool false)
  have HwS := hide hwS
  clear hwS
  refine wpAnyE_ready (rs := [8]) (by kernel_rfl) (by simp) ?_
  refine AllReadyE.late (o := ?_) ?_ rfl (fun K hK => ?_) AllReadyE.nil
  rotate_left 1
  ·(try simp only [List.getElem?_toArray, List.getElem?_cons_succ, List.getElem?_cons_zero]); exact rfl
  refine step_skipA rfl (stoE (x := .tmp 3) (y := .tmp 24) (k := k) (s := ⟨#[107, 101, 120, 105, 110, 105, 116, 32]⟩ ++ ap) _ rfl _ (by rfl) (by rfl) _ hES) ?_
  refine hK.out _ _ ?_
  clear hK K
  try simp only [Act.put, List.setIfInBounds_toArray, List.set_cons_zero, List.set_cons_succ]
  refine wpAnyE_done (by kernel_rfl) ?_ _
  obtain ⟨hF, hG, hbF⟩ := rerr_fin (k := k) (s := ⟨#[107, 101, 120, 105, 110, 105, 116, 32]⟩ ++ ap) hRd hEd hbd (Nat.le_refl _)
  rw [← HwS.out] at hF hG hbF
  generalize ((wS.setCell ⟨w.heap.size + 1, 0, none⟩ (.int .i64 (k : Nat))).setCell ⟨w.heap.size + 1, 1, none⟩ (.string (⟨#[107, 101, 120, 105, 110, 105, 116, 32]⟩ ++ ap))) = wF at hF hG hbF ⊢
  clear hSd hRd hEd hbd hE5 hRz hEz hbz hapl hES HwS
  go_wp2_with fail
  have q0 := hF.cell 0
  have q1 := hF.cell 1
  have q2 := hF.cell 2
  have q3 := hF.cell 3
  have q4 := hF.cell 4
  have q5 := hF.cell 5
  have q6 := hF.cell 6
  have q7 := hF.cell 7
  have q8 := hF.cell 8
  have q9 := hF.cell 9
  have q10 := hF.cell 10
  have q11 := hF.cell 11
  have q12 := hF.cell 12
  have q13 := hF.cell 13
  have q14 := hF.cell 14
  have q15 := hF.cell 15
  have q16 := hG.cell 0
  have q17 := hG.cell 1
  simp at q0 q1 q2 q3 q4 q5 q6 q7 q8 q9 q10 q11 q12 q13 q14 q15 q16 q17
  have HF := hide (show RParP pl.data.toList w (.returned (.tuple #[.agg #[.string ⟨#[]⟩, .slice none 0 0, .slice none 0 0, .slice none 0 0, .slice none 0 0, .slice none 0 0, .slice none 0 0, .slice none 0 0, .slice none 0 0, .slice none 0 0, .slice none 0 0, .bool false, .bool false, .bool false, .bool false, .bool false], .agg #[.int .i64 (k : Nat), .string (⟨#[107, 101, 120, 105, 110, 105, 116, 32]⟩ ++ ap)]])) wF from ⟨hbF, .inr ⟨kexB :: ps, k, HE.out, HK0.out, by rw [HAT.out]⟩⟩)
  clear hF hG hbF
  exact bodyPost_ret (v := .tuple #[.agg #[.string ⟨#[]⟩, .slice none 0 0, .slice none 0 0, .slice none 0 0, .slice none 0 0, .slice none 0 0, .slice none 0 0, .slice none 0 0, .slice none 0 0, .slice none 0 0, .slice none 0 0, .bool false, .bool false, .bool false, .bool false, .bool false], .agg #[.int .i64 (k : Nat), .string (⟨#[107, 101, 120, 105, 110, 105, 116, 32]⟩ ++ ap)]]) (by simp [results, Tryz.results20, go_sem, q0, q1, q2, q3, q4, q5, q6, q7, q8, q9, q10, q11, q12, q13, q14, q15, q16, q17]) rfl HF.out
set_option maxHeartbeats 40000000 in
set_option maxRecDepth 100000 in
theorem rparse16_b {w : World} (pl : ByteArray) (hpl : pl.size ≤ 2000) (hok : ∃ n l, decS pl.data.toList = .ok n l ∧ n ≠ 20) : Calls Tryz.prog 20 #[.string pl] w (RParP pl.data.toList w) := by
 obtain ⟨W0, hW0⟩ : ∃ W0, W0 = (w.alloc (.cells #[.string ⟨#[]⟩, .slice none 0 0, .slice none 0 0, .slice none 0 0, .slice none 0 0, .slice none 0 0, .slice none 0 0, .slice none 0 0, .slice none 0 0, .slice none 0 0, .slice none 0 0, .bool false, .bool false, .bool false, .bool false, .bool false] 45)).alloc (.cells #[.int .i64 0, .string ⟨#[]⟩] 42) := ⟨_, rfl⟩
 have hb0 : Below w.heap.size w W0 := by rw [hW0]; (repeat (first | exact Below.refl _ _ | refine below_drewN ?_ _ | refine Below.drew ?_ | refine Below.alloc ?_ (by first | omega | (simp; done) | (simp; omega)) _ | refine Below.setCell ?_ (by first | omega | (simp; done) | (simp; omega)) _ | refine bel_alloc ?_ _ | refine bel_trans ?_ (by assumption) | refine Below.trans ?_ (Below.mono (by assumption) (by first | omega | (simp; done) | (simp; omega)))))
 have hR0 : Blk W0 w.heap.size 45 #[.string ⟨#[]⟩, .slice none 0 0, .slice none 0 0, .slice none 0 0, .slice none 0 0, .slice none 0 0, .slice none 0 0, .slice none 0 0, .slice none 0 0, .slice none 0 0, .slice none 0 0, .bool false, .bool false, .bool false, .bool false, .bool false] := by rw [hW0]; exact (Blk.new w _ _).alloc _
 have hE0 : Blk W0 (w.heap.size + 1) 42 #[.int .i64 0, .string ⟨#[]⟩] := by rw [hW0]; exact blk_new2 w _ _ _
 have HD := hide (rdecode_anyN (w := W0) pl (by omega))
 have HX := hide (And.intro hb0 (And.intro hR0 hE0))
 have HOK := hide hok
 have Hpl := hide hpl
 clear hb0 hR0 hE0 hok hpl
 go_enter Tryz.func20, Tryz.ntmps20
 go_upto_region 1 with fail
 rw [← hW0]
 clear hW0
 go_wp2_with fail
 refine HD.out.mono ?_
 rintro e w1 ⟨hb1, hr1⟩
 have hb01 := HX.out.1.trans (hb1.mono HX.out.1.size)
 have hR1 := HX.out.2.1.below hb1 HX.out.2.1.lt
 have hE1 := HX.out.2.2.below hb1 HX.out.2.2.lt
 have HS := hide (And.intro hb01 (And.intro hR1 hE1))
 clear HD hb1 hb01 hR1 hE1
 rcases hr1 with ⟨num, l, A, c, hd, rfl, hF⟩ | ⟨ps, k, hk, hk0, rfl⟩
 ·obtain ⟨W5, hW5⟩ : ∃ W5, W5 = (w1.alloc (.cells #[.int .i64 (num : Nat), .slice A l.length c] 86)).alloc (.cells #[.int .i64 0, .string ⟨#[]⟩] 42) := ⟨_, rfl⟩
  have hb15 : Below w1.heap.size w1 W5 := by rw [hW5]; (repeat (first | exact Below.refl _ _ | refine below_drewN ?_ _ | refine Below.drew ?_ | refine Below.alloc ?_ (by first | omega | (simp; done) | (simp; omega)) _ | refine Below.setCell ?_ (by first | omega | (simp; done) | (simp; omega)) _ | refine bel_alloc ?_ _ | refine bel_trans ?_ (by assumption) | refine Below.trans ?_ (Below.mono (by assumption) (by first | omega | (simp; done) | (simp; omega)))))
  have hM5 : Blk W5 w1.heap.size 86 #[.int .i64 (num : Nat), .slice A l.length c] := by rw [hW5]; exact (Blk.new w1 _ _).alloc _
  have hE5 : Blk W5 (w1.heap.size + 1) 42 #[.int .i64 0, .string ⟨#[]⟩] := by rw [hW5]; exact blk_new2 w1 _ _ _
  go_upto_region 2 with fail
  rw [← hW5]
  clear hW5
  have e0c := hE5.cell 0
  have m0 := hM5.cell 0
  have m1 := hM5.cell 1
  simp at e0c m0 m1
  by_cases hn : num = 20
  ·subst hn
   obtain ⟨n9, l9, h9, h8⟩ := HOK.out
   rw [hd] at h9
   injection h9 with h9 _
   exact absurd h9.symm h8
  ·have HE := hide (show ParE (decS pl.data.toList) [kexB] 6 from .inr (.inl ⟨num, l, hd, hn, rfl, rfl⟩))
   have HK0 := hide (show (6 : Nat) ≠ 0 by decide)
   have HAT := hide (show bs (atL [kexB]) = (⟨#[107, 101, 120, 105, 110, 105, 116, 32]⟩ : ByteArray) from by kernel_rfl)
   have hne : (((num : Nat) : Int) == 20) = false := by rw [beq_eq_false_iff_ne]; omega
   have hne2 : (((num : Nat) : Int) != 20) = true := by simp [bne, hne]
   have hRz := HS.out.2.1.below hb15 HS.out.2.1.lt
   have hEz := HS.out.2.2.below hb15 HS.out.2.2.lt
   have hbz := HS.out.1.trans (hb15.mono HS.out.1.size)
   have r0 := hRz.cell 0
   have t0 := hRz.frozen 0
   have r1 := hRz.cell 1
   have t1 := hRz.frozen 1
   have r2 := hRz.cell 2
   have t2 := hRz.frozen 2
   have r3 := hRz.cell 3
   have t3 := hRz.frozen 3
   have r4 := hRz.cell 4
   have t4 := hRz.frozen 4
   have r5 := hRz.cell 5
   have t5 := hRz.frozen 5
   have r6 := hRz.cell 6
   have t6 := hRz.frozen 6
   have r7 := hRz.cell 7
   have t7 := hRz.frozen 7
   have r8 := hRz.cell 8
   have t8 := hRz.frozen 8
   have r9 := hRz.cell 9
   have t9 := hRz.frozen 9
   have r10 := hRz.cell 10
   have t10 := hRz.frozen 10
   have r11 := hRz.cell 11
   have t11 := hRz.frozen 11
   have r12 := hRz.cell 12
   have t12 := hRz.frozen 12
   have r13 := hRz.cell 13
   have t13 := hRz.frozen 13
   have r14 := hRz.cell 14
   have t14 := hRz.frozen 14
   have r15 := hRz.cell 15
   have t15 := hRz.frozen 15
   simp at r0 r1 r2 r3 r4 r5 r6 r7 r8 r9 r10 r11 r12 r13 r14 r15
   have y0 := hEz.cell 0
   have y1 := hEz.cell 1
   have s0 := hEz.frozen 0
   have s1 := hEz.frozen 1
   simp at y0 y1
   clear hd hn hF hb15 hM5 hE5
   go_wp2_with fail
   obtain ⟨wF, hwF⟩ : ∃ wF, wF = (((sto16 W5 w.heap.size (.string ⟨#[]⟩) (.slice none 0 0) (.slice none 0 0) (.slice none 0 0) (.slice none 0 0) (.slice none 0 0) (.slice none 0 0) (.slice none 0 0) (.slice none 0 0) (.slice none 0 0) (.slice none 0 0) (.bool false) (.bool false) (.bool false) (.bool false) (.bool false)).setCell ⟨w.heap.size + 1, 0, none⟩ (.int .i64 (6 : Nat))).setCell ⟨w.heap.size + 1, 1, none⟩ (.string (⟨#[107, 101, 120, 105, 110, 105, 116, 32]⟩))) := ⟨_, rfl⟩
   obtain ⟨hF, hG, hbF⟩ := rerr_fin (k := 6) (s := ⟨#[107, 101, 120, 105, 110, 105, 116, 32]⟩) hRz hEz hbz (Nat.le_refl _)
   have hch : ((((((((((((((((((W5.setCell ⟨w.heap.size, 0, none⟩ (.string ⟨#[]⟩)).setCell ⟨w.heap.size, 1, none⟩ (.slice none 0 0)).setCell ⟨w.heap.size, 2, none⟩ (.slice none 0 0)).setCell ⟨w.heap.size, 3, none⟩ (.slice none 0 0)).setCell ⟨w.heap.size, 4, none⟩ (.slice none 0 0)).setCell ⟨w.heap.size, 5, none⟩ (.slice none 0 0)).setCell ⟨w.heap.size, 6, none⟩ (.slice none 0 0)).setCell ⟨w.heap.size, 7, none⟩ (.slice none 0 0)).setCell ⟨w.heap.size, 8, none⟩ (.slice none 0 0)).setCell ⟨w.heap.size, 9, none⟩ (.slice none 0 0)).setCell ⟨w.heap.size, 10, none⟩ (.slice none 0 0)).setCell ⟨w.heap.size, 11, none⟩ (.bool false)).setCell ⟨w.heap.size, 12, none⟩ (.bool false)).setCell ⟨w.heap.size, 13, none⟩ (.bool false)).setCell ⟨w.heap.size, 14, none⟩ (.bool false)).setCell ⟨w.heap.size, 15, none⟩ (.bool false)).setCell ⟨w.heap.size + 1, 0, none⟩ (.int .i64 6)).setCell ⟨w.heap.size + 1, 1, none⟩ (.string (⟨#[107, 101, 120, 105, 110, 105, 116, 32]⟩))) = wF := hwF.symm
   rw [← hwF] at hF hG hbF
   rw [hch]
   clear hwF hch r0 t0 r1 t1 r2 t2 r3 t3 r4 t4 r5 t5 r6 t6 r7 t7 r8 t8 r9 t9 r10 t10 r11 t11 r12 t12 r13 t13 r14 t14 r15 t15 y0 y1 s0 s1
   have q0 := hF.cell 0
   have q1 := hF.cell 1
   have q2 := hF.cell 2
   have q3 := hF.cell 3
   have q4 := hF.cell 4
   have q5 := hF.cell 5
   have q6 := hF.cell 6
   have q7 := hF.cell 7
   have q8 := hF.cell 8
   have q9 := hF.cell 9
   have q10 := hF.cell 10
   have q11 := hF.cell 11
   have q12 := hF.cell 12
   have q13 := hF.cell 13
   have q14 := hF.cell 14
   have q15 := hF.cell 15
   have q16 := hG.cell 0
   have q17 := hG.cell 1
   simp at q0 q1 q2 q3 q4 q5 q6 q7 q8 q9 q10 q11 q12 q13 q14 q15 q16 q17
   have HF := hide (show RParP pl.data.toList w (.returned (.tuple #[.agg #[.string ⟨#[]⟩, .slice none 0 0, .slice none 0 0, .slice none 0 0, .slice none 0 0, .slice none 0 0, .slice none 0 0, .slice none 0 0, .slice none 0 0, .slice none 0 0, .slice none 0 0, .bool false, .bool false, .bool false, .bool false, .bool false], .agg #[.int .i64 6, .string (⟨#[107, 101, 120, 105, 110, 105, 116, 32]⟩)]])) wF from ⟨hbF, .inr ⟨[kexB], 6, HE.out, HK0.out, by first | (rw [HAT.out]; done) | (rw [HAT.out]; rfl)⟩⟩)
   clear hF hG hbF hRz hEz hbz
   exact bodyPost_ret (v := .tuple #[.agg #[.string ⟨#[]⟩, .slice none 0 0, .slice none 0 0, .slice none 0 0, .slice none 0 0, .slice none 0 0, .slice none 0 0, .slice none 0 0, .slice none 0 0, .slice none 0 0, .slice none 0 0, .bool false, .bool false, .bool false, .bool false, .bool false], .agg #[.int .i64 6, .string (⟨#[107, 101, 120, 105, 110, 105, 116, 32]⟩)]]) (by simp [results, Tryz.results20, go_sem, q0, q1, q2, q3, q4, q5, q6, q7, q8, q9, q10, q11, q12, q13, q14, q15, q16, q17]) rfl HF.out
 ·obtain ⟨n9, l9, h9, _⟩ := HOK.out
  rw [h9] at hk
  cases hk
set_option maxHeartbeats 40000000 in
set_option maxRecDepth 100000 in
theorem rparse16_y {w : World} (pl : ByteArray) (hpl : pl.size ≤ 2000) (hok : ∃ ck l1 l2 l3 l4 l5 l6 l7 l8 l9 l10 f, decS pl.data.toList = .ok 20 (kexFs ck [l1, l2, l3, l4, l5, l6, l7, l8, l9, l10] f 0) ∧ markedL (splitM l1).rest = false) : Calls Tryz.prog 20 #[.string pl] w (RParP pl.data.toList w) := by
 obtain ⟨W0, hW0⟩ : ∃ W0, W0 = (w.alloc (.cells #[.string ⟨#[]⟩, .slice none 0 0, .slice none 0 0, .slice none 0 0, .slice none 0 0, .slice none 0 0, .slice none 0 0, .slice none 0 0, .slice none 0 0, .slice none 0 0, .slice none 0 0, .bool false, .bool false, .bool false, .bool false, .bool false] 45)).alloc (.cells #[.int .i64 0, .string ⟨#[]⟩] 42) := ⟨_, rfl⟩
 have hb0 : Below w.heap.size w W0 := by rw [hW0]; (repeat (first | exact Below.refl _ _ | refine below_drewN ?_ _ | refine Below.drew ?_ | refine Below.alloc ?_ (by first | omega | (simp; done) | (simp; omega)) _ | refine Below.setCell ?_ (by first | omega | (simp; done) | (simp; omega)) _ | refine bel_alloc ?_ _ | refine bel_trans ?_ (by assumption) | refine Below.trans ?_ (Below.mono (by assumption) (by first | omega | (simp; done) | (simp; omega)))))
 have hR0 : Blk W0 w.heap.size 45 #[.string ⟨#[]⟩, .slice none 0 0, .slice none 0 0, .slice none 0 0, .slice none 0 0, .slice none 0 0, .slice none 0 0, .slice none 0 0, .slice none 0 0, .slice none 0 0, .slice none 0 0, .bool false, .bool false, .bool false, .bool false, .bool false] := by rw [hW0]; exact (Blk.new w _ _).alloc _
 have hE0 : Blk W0 (w.heap.size + 1) 42 #[.int .i64 0, .string ⟨#[]⟩] := by rw [hW0]; exact blk_new2 w _ _ _
 have HD := hide (rdecode_anyN (w := W0) pl (by omega))
 have HX := hide (And.intro hb0 (And.intro hR0 hE0))
 have HOK := hide hok
 have Hpl := hide hpl
 clear hb0 hR0 hE0 hok hpl
 go_enter Tryz.func20, Tryz.ntmps20
 go_upto_region 1 with fail
 rw [← hW0]
 clear hW0
 go_wp2_with fail
 refine HD.out.mono ?_
 rintro e w1 ⟨hb1, hr1⟩
 have hb01 := HX.out.1.trans (hb1.mono HX.out.1.size)
 have hR1 := HX.out.2.1.below hb1 HX.out.2.1.lt
 have hE1 := HX.out.2.2.below hb1 HX.out.2.2.lt
 have HS := hide (And.intro hb01 (And.intro hR1 hE1))
 clear HD hb1 hb01 hR1 hE1
 rcases hr1 with ⟨num, l, A, c, hd, rfl, hF⟩ | ⟨ps, k, hk, hk0, rfl⟩
 ·obtain ⟨W5, hW5⟩ : ∃ W5, W5 = (w1.alloc (.cells #[.int .i64 (num : Nat), .slice A l.length c] 86)).alloc (.cells #[.int .i64 0, .string ⟨#[]⟩] 42) := ⟨_, rfl⟩
  have hb15 : Below w1.heap.size w1 W5 := by rw [hW5]; (repeat (first | exact Below.refl _ _ | refine below_drewN ?_ _ | refine Below.drew ?_ | refine Below.alloc ?_ (by first | omega | (simp; done) | (simp; omega)) _ | refine Below.setCell ?_ (by first | omega | (simp; done) | (simp; omega)) _ | refine bel_alloc ?_ _ | refine bel_trans ?_ (by assumption) | refine Below.trans ?_ (Below.mono (by assumption) (by first | omega | (simp; done) | (simp; omega)))))
  have hM5 : Blk W5 w1.heap.size 86 #[.int .i64 (num : Nat), .slice A l.length c] := by rw [hW5]; exact (Blk.new w1 _ _).alloc _
  have hE5 : Blk W5 (w1.heap.size + 1) 42 #[.int .i64 0, .string ⟨#[]⟩] := by rw [hW5]; exact blk_new2 w1 _ _ _
  go_upto_region 2 with fail
  rw [← hW5]
  clear hW5
  have e0c := hE5.cell 0
  have m0 := hM5.cell 0
  have m1 := hM5.cell 1
  simp at e0c m0 m1
  by_cases hn : num = 20
  ·subst hn
   obtain ⟨ck, ls, f, u, hls, hl, hf, hu⟩ := dec_20 hd
   have hl13 : l.length = 13 := by rw [hl]; simp [kexFs, hls]
   rw [hl13] at hM5 m1
   clear hl13
   match ls, hls, hl with
   | [l1, l2, l3, l4, l5, l6, l7, l8, l9, l10], _, hl =>
   subst hl
   obtain ⟨ad, b0, d0, b1, d1, b2, d2, b3, d3, b4, d4, b5, d5, b6, d6, b7, d7, b8, d8, b9, d9, b10, d10, b11, d11, b12, d12, rfl, hP⟩ := hF.par
   have hlenK : ∀ k ∈ [l1, l2, l3, l4, l5, l6, l7, l8, l9, l10], k.length ≤ 1000000 := by
    intro k hk
    have := dec_len hd ⟨110, 0, [], k⟩ (by unfold kexFs; exact List.mem_cons_of_mem _ (List.mem_append_left _ (List.mem_map.2 ⟨k, hk, rfl⟩)))
    have h2 : k.length ≤ 16 := this
    omega
   have hP5 := hP.below hb15
   have hb5 := HS.out.1.trans (hb15.mono HS.out.1.size)
   have hR5 := HS.out.2.1.below hb15 HS.out.2.1.lt
   have hE9 := HS.out.2.2.below hb15 HS.out.2.2.lt
   have hx1 : ((20 : Int) == 20) = true := by decide
   have hx2 : ((20 : Int) != 20) = false := by decide
   have H5 := hide (And.intro hP5 (And.intro hb5 (And.intro hR5 hE9)))
   have HD := hide (And.intro hd (And.intro hf hlenK))
   clear hP hP5 hb5 hR5 hE9 hd hf hlenK hF hb15 HS hM5 hE5
   go_upto_region 7 with fail
   refine wp_region_E (fun W => Below W5.heap.size W5 W) (fun i => [3, 7, 8, 9, 10].contains i) (by kernel_rfl) ?_
   obtain ⟨Wd, hWd⟩ : ∃ Wd, Wd = W5.drew := ⟨_, rfl⟩
   have hSd : Below W5.heap.size W5 Wd := by rw [hWd]; exact (Below.refl _ _).drew
   rw [← hWd]
   clear hWd
   refine wpAnyE_takeY (i := 0) (oi := ?_) (v := .slice (some ad) 13 c) ?_ ?_ ?_ ?_ ?_ ?_ ?_ ?_
   rotate_left 1
   ·(try simp only [List.getElem?_toArray, List.getElem?_cons_succ, List.getElem?_cons_zero]); exact rfl
   ·kernel_rfl
   ·kernel_rfl
   ·kernel_rfl
   ·rfl
   ·exact fun _ _ _ h => h
   ·exact Or.inl ⟨by rfl, fun w _ => by go_simp⟩
   try simp only [Act.put, List.setIfInBounds_toArray, List.set_cons_zero, List.set_cons_succ]
   refine wpAnyE_takeY (i := 1) (oi := ?_) (v := .pointer (some ad)) ?_ ?_ ?_ ?_ ?_ ?_ ?_ ?_
   rotate_left 1
   ·(try simp only [List.getElem?_toArray, List.getElem?_cons_succ, List.getElem?_cons_zero]); exact rfl
   ·kernel_rfl
   ·kernel_rfl
   ·kernel_rfl
   ·rfl
   ·exact fun _ _ _ h => h
   ·exact Or.inl ⟨by rfl, fun w _ => by go_simp⟩
   try simp only [Act.put, List.setIfInBounds_toArray, List.set_cons_zero, List.set_cons_succ]
   refine wpAnyE_takeY (i := 2) (oi := ?_) (v := .pointer (some ⟨ad.block, ad.off + 2, none⟩)) ?_ ?_ ?_ ?_ ?_ ?_ ?_ ?_
   rotate_left 1
   ·(try simp only [List.getElem?_toArray, List.getElem?_cons_succ, List.getElem?_cons_zero]); exact rfl
   ·kernel_rfl
   ·kernel_rfl
   ·kernel_rfl
   ·rfl
   ·exact fun _ _ _ h => h
   ·exact Or.inl ⟨by rfl, fun w _ => by go_simp⟩
   try simp only [Act.put, List.setIfInBounds_toArray, List.set_cons_zero, List.set_cons_succ]
   refine wpAnyE_takeY (i := 4) (oi := ?_) (v := .slice (some ad) 13 c) ?_ ?_ ?_ ?_ ?_ ?_ ?_ ?_
   rotate_left 1
   ·(try simp only [List.getElem?_toArray, List.getElem?_cons_succ, List.getElem?_cons_zero]); exact rfl
   ·kernel_rfl
   ·kernel_rfl
   ·kernel_rfl
   ·rfl
   ·exact fun _ _ _ h => h
   ·exact Or.inl ⟨by rfl, fun w _ => by go_simp⟩
   try simp only [Act.put, List.setIfInBounds_toArray, List.set_cons_zero, List.set_cons_succ]
   refine wpAnyE_takeY (i := 5) (oi := ?_) (v := .pointer (some (ad.add 44))) ?_ ?_ ?_ ?_ ?_ ?_ ?_ ?_
   rotate_left 1
   ·(try simp only [List.getElem?_toArray, List.getElem?_cons_succ, List.getElem?_cons_zero]); exact rfl
   ·kernel_rfl
   ·kernel_rfl
   ·kernel_rfl
   ·rfl
   ·exact fun _ _ _ h => h
   ·exact Or.inl ⟨by rfl, fun w _ => by go_simp⟩
   try simp only [Act.put, List.setIfInBounds_toArray, List.set_cons_zero, List.set_cons_succ]
   refine wpAnyE_takeY (i := 6) (oi := ?_) (v := .pointer (some ⟨(ad.add 44).block, (ad.add 44).off + 1, none⟩)) ?_ ?_ ?_ ?_ ?_ ?_ ?_ ?_
   rotate_left 1
   ·(try simp only [List.getElem?_toArray, List.getElem?_cons_succ, List.getElem?_cons_zero]); exact rfl
   ·kernel_rfl
   ·kernel_rfl
   ·kernel_rfl
   ·rfl
   ·exact fun _ _ _ h => h
   ·exact Or.inl ⟨by rfl, fun w _ => by go_simp⟩
   try simp only [Act.put, List.setIfInBounds_toArray, List.set_cons_zero, List.set_cons_succ]
   refine wpAnyE_take (i := 3) (oi := ?_) (v := .string (bs ck)) ?_ ?_ ?_ ?_ ?_ ?_ ?_ hSd ?_
   rotate_left 1
   ·(try simp only [List.getElem?_toArray, List.getElem?_cons_succ, List.getElem?_cons_zero]); exact rfl
   ·kernel_rfl
   ·kernel_rfl
   ·kernel_rfl
   ·kernel_rfl
   ·exact fun _ _ _ h => h
   ·refine Or.inl ⟨by rfl, fun w hSw => ?_⟩
    have q : w.cell? ⟨ad.block, ad.off + 2, none⟩ = some (.string (bs ck)) := ((H5.out.1.below hSw).at_ 0 _ _ rfl rfl).1.2.2.1
    clear hSw
    go_simp
   try simp only [Act.put, List.setIfInBounds_toArray, List.set_cons_zero, List.set_cons_succ]
   refine wpAnyE_take (i := 7) (oi := ?_) (v := .int .i64 f) ?_ ?_ ?_ ?_ ?_ ?_ ?_ hSd ?_
   rotate_left 1
   ·(try simp only [List.getElem?_toArray, List.getElem?_cons_succ, List.getElem?_cons_zero]); exact rfl
   ·kernel_rfl
   ·kernel_rfl
   ·kernel_rfl
   ·kernel_rfl
   ·exact fun _ _ _ h => h
   ·refine Or.inl ⟨by rfl, fun w hSw => ?_⟩
    have q : w.cell? ⟨ad.block, ad.off + 44 + 1, none⟩ = some (.int .i64 f) := ((H5.out.1.below hSw).at_ 11 _ _ rfl rfl).1.2.1
    clear hSw
    go_simp
   try simp only [Act.put, List.setIfInBounds_toArray, List.set_cons_zero, List.set_cons_succ]
   refine wpAnyE_take (i := 8) (oi := ?_) (v := .bool (f == 1)) ?_ ?_ ?_ ?_ ?_ ?_ ?_ hSd ?_
   rotate_left 1
   ·(try simp only [List.getElem?_toArray, List.getElem?_cons_succ, List.getElem?_cons_zero]); exact rfl
   ·kernel_rfl
   ·kernel_rfl
   ·kernel_rfl
   ·kernel_rfl
   ·exact fun _ _ _ h => h
   ·refine Or.inl ⟨by rfl, fun w hSw => ?_⟩
    clear hSw
    go_simp
   try simp only [Act.put, List.setIfInBounds_toArray, List.set_cons_zero, List.set_cons_succ]
   refine wpAnyE_take (i := 9) (oi := ?_) (v := .agg #[.string (bs ck), .slice none 0 0, .slice none 0 0, .slice none 0 0, .slice none 0 0, .slice none 0 0, .slice none 0 0, .slice none 0 0, .slice none 0 0, .slice none 0 0, .slice none 0 0, .bool false, .bool false, .bool false, .bool false, .bool (f == 1)]) ?_ ?_ ?_ ?_ ?_ ?_ ?_ hSd ?_
   rotate_left 1
   ·(try simp only [List.getElem?_toArray, List.getElem?_cons_succ, List.getElem?_cons_zero]); exact rfl
   ·kernel_rfl
   ·kernel_rfl
   ·kernel_rfl
   ·kernel_rfl
   ·exact fun _ _ _ h => h
   ·refine Or.inl ⟨by rfl, fun w hSw => ?_⟩
    clear hSw
    go_simp
   try simp only [Act.put, List.setIfInBounds_toArray, List.set_cons_zero, List.set_cons_succ]
   refine wpAnyE_ready (rs := [10]) (by kernel_rfl) (by simp) ?_
   refine AllReadyE.cons (o := ?_) ?_ (fun K hK => ?_) AllReadyE.nil
   rotate_left 1
   ·(try simp only [List.getElem?_toArray, List.getElem?_cons_succ, List.getElem?_cons_zero]); exact rfl
   refine step_eqA rfl (allI _ rfl _ _) ?_
   have hX := Blk.new Wd 45 #[.string ⟨#[]⟩, .slice none 0 0, .slice none 0 0, .slice none 0 0, .slice none 0 0, .slice none 0 0, .slice none 0 0, .slice none 0 0, .slice none 0 0, .slice none 0 0, .slice none 0 0, .bool false, .bool false, .bool false, .bool false, .bool false]
   have hSa := hSd.alloc hSd.size (.cells #[.string ⟨#[]⟩, .slice none 0 0, .slice none 0 0, .slice none 0 0, .slice none 0 0, .slice none 0 0, .slice none 0 0, .slice none 0 0, .slice none 0 0, .slice none 0 0, .slice none 0 0, .bool false, .bool false, .bool false, .bool false, .bool false] 45)
   refine hK.out _ _ hSa (fun _ => ?_)
   clear hK K
   try simp only [Act.put, List.setIfInBounds_toArray, List.set_cons_zero, List.set_cons_succ]
   obtain ⟨wa, hwa⟩ : ∃ wa, wa = Wd.alloc (.cells #[.string ⟨#[]⟩, .slice none 0 0, .slice none 0 0, .slice none 0 0, .slice none 0 0, .slice none 0 0, .slice none 0 0, .slice none 0 0, .slice none 0 0, .slice none 0 0, .slice none 0 0, .bool false, .bool false, .bool false, .bool false, .bool false] 45) := ⟨_, rfl⟩
   rw [← hwa] at hX hSa
   simp only [← hwa]
   clear hwa
   obtain ⟨xb, hxb⟩ : ∃ xb, xb = Wd.heap.size := ⟨_, rfl⟩
   have hxz : W5.heap.size ≤ xb := by rw [hxb]; exact hSd.size
   rw [← hxb] at hX
   simp only [← hxb]
   clear hxb
   refine wpAnyE_ready (rs := [11]) (by kernel_rfl) (by simp) ?_
   refine AllReadyE.late (o := ?_) ?_ rfl (fun K hK => ?_) AllReadyE.nil
   rotate_left 1
   ·(try simp only [List.getElem?_toArray, List.getElem?_cons_succ, List.getElem?_cons_zero]); exact rfl
   refine step_skipA rfl (stoI (x := .tmp 7) (y := .tmp 41) (s := bs ck) (b := (f == 1)) _ rfl _ (by rfl) (by rfl) _ hX) ?_
   refine hK.out _ _ ?_
   clear hK K
   try simp only [Act.put, List.setIfInBounds_toArray, List.set_cons_zero, List.set_cons_succ]
   refine wpAnyE_done (by kernel_rfl) ?_ _
   have hXn := sto16_blk hX (.string (bs ck)) (.slice none 0 0) (.slice none 0 0) (.slice none 0 0) (.slice none 0 0) (.slice none 0 0) (.slice none 0 0) (.slice none 0 0) (.slice none 0 0) (.slice none 0 0) (.slice none 0 0) (.bool false) (.bool false) (.bool false) (.bool false) (.bool (f == 1))
   have hBn := sto16_bel (r := xb) hSa hxz (.string (bs ck)) (.slice none 0 0) (.slice none 0 0) (.slice none 0 0) (.slice none 0 0) (.slice none 0 0) (.slice none 0 0) (.slice none 0 0) (.slice none 0 0) (.slice none 0 0) (.slice none 0 0) (.bool false) (.bool false) (.bool false) (.bool false) (.bool (f == 1))
   generalize sto16 wa xb (.string (bs ck)) (.slice none 0 0) (.slice none 0 0) (.slice none 0 0) (.slice none 0 0) (.slice none 0 0) (.slice none 0 0) (.slice none 0 0) (.slice none 0 0) (.slice none 0 0) (.slice none 0 0) (.bool false) (.bool false) (.bool false) (.bool false) (.bool (f == 1)) = w7 at hXn hBn ⊢
   clear hSd hSa hX
   go_upto_region 8 with fail
   have hP1 := fun (W : World) (hb : Below W5.heap.size W5 W) => ((H5.out.1.below hb).at_ 1 _ _ rfl rfl).2
   have HPl := hide (fun (W : World) (hb : Below W5.heap.size W5 W) => rplain16_any (w := W) (A := b1) (c := d1) (ls := l1) (hP1 W hb).txc.1 (by obtain ⟨_, _, e, hc, _⟩ := hP1 W hb; injection e with _ _ e3; rw [e3]; exact hc) (HD.out.2.2 l1 (by simp)))
   clear hP1
   refine wp_region_E (fun W => Below W5.heap.size W5 W) (fun i => [3, 4, 8, 12, 16, 20, 24, 28, 32, 33].contains i) (by kernel_rfl) ?_
   obtain ⟨Wd, hWd⟩ : ∃ Wd, Wd = w7.drew := ⟨_, rfl⟩
   have hSd : Below W5.heap.size W5 Wd := by rw [hWd]; exact hBn.drew
   have hXd : Blk Wd xb 45 #[.string (bs ck), .slice none 0 0, .slice none 0 0, .slice none 0 0, .slice none 0 0, .slice none 0 0, .slice none 0 0, .slice none 0 0, .slice none 0 0, .slice none 0 0, .slice none 0 0, .bool false, .bool false, .bool false, .bool false, .bool (f == 1)] := by rw [hWd]; exact hXn
   rw [← hWd]
   clear hWd hBn hXn
   refine wpAnyE_takeY (i := 0) (oi := ?_) (v := .slice (some ad) 13 c) ?_ ?_ ?_ ?_ ?_ ?_ ?_ ?_
   rotate_left 1
   ·(try simp only [List.getElem?_toArray, List.getElem?_cons_succ, List.getElem?_cons_zero]); exact rfl
   ·kernel_rfl
   ·kernel_rfl
   ·kernel_rfl
   ·rfl
   ·exact fun _ _ _ h => h
   ·exact Or.inl ⟨by rfl, fun w _ => by go_simp⟩
   try simp only [Act.put, List.setIfInBounds_toArray, List.set_cons_zero, List.set_cons_succ]
   refine wpAnyE_takeY (i := 1) (oi := ?_) (v := .pointer (some (ad.add 4))) ?_ ?_ ?_ ?_ ?_ ?_ ?_ ?_
   rotate_left 1
   ·(try simp only [List.getElem?_toArray, List.getElem?_cons_succ, List.getElem?_cons_zero]); exact rfl
   ·kernel_rfl
   ·kernel_rfl
   ·kernel_rfl
   ·rfl
   ·exact fun _ _ _ h => h
   ·exact Or.inl ⟨by rfl, fun w _ => by go_simp⟩
   try simp only [Act.put, List.setIfInBounds_toArray, List.set_cons_zero, List.set_cons_succ]
   refine wpAnyE_takeY (i := 2) (oi := ?_) (v := .pointer (some ⟨(ad.add 4).block, (ad.add 4).off + 3, none⟩)) ?_ ?_ ?_ ?_ ?_ ?_ ?_ ?_
   rotate_left 1
   ·(try simp only [List.getElem?_toArray, List.getElem?_cons_succ, List.getElem?_cons_zero]); exact rfl
   ·kernel_rfl
   ·kernel_rfl
   ·kernel_rfl
   ·rfl
   ·exact fun _ _ _ h => h
   ·exact Or.inl ⟨by rfl, fun w _ => by go_simp⟩
   try simp only [Act.put, List.setIfInBounds_toArray, List.set_cons_zero, List.set_cons_succ]
   refine wpAnyE_takeY (i := 5) (oi := ?_) (v := .slice (some ad) 13 c) ?_ ?_ ?_ ?_ ?_ ?_ ?_ ?_
   rotate_left 1
   ·(try simp only [List.getElem?_toArray, List.getElem?_cons_succ, List.getElem?_cons_zero]); exact rfl
   ·kernel_rfl
   ·kernel_rfl
   ·kernel_rfl
   ·rfl
   ·exact fun _ _ _ h => h
   ·exact Or.inl ⟨by rfl, fun w _ => by go_simp⟩
   try simp only [Act.put, List.setIfInBounds_toArray, List.set_cons_zero, List.set_cons_succ]
   refine wpAnyE_takeY (i := 6) (oi := ?_) (v := .pointer (some (ad.add 8))) ?_ ?_ ?_ ?_ ?_ ?_ ?_ ?_
   rotate_left 1
   ·(try simp only [List.getElem?_toArray, List.getElem?_cons_succ, List.getElem?_cons_zero]); exact rfl
   ·kernel_rfl
   ·kernel_rfl
   ·kernel_rfl
   ·rfl
   ·exact fun _ _ _ h => h
   ·exact Or.inl ⟨by rfl, fun w _ => by go_simp⟩
   try simp only [Act.put, List.setIfInBounds_toArray, List.set_cons_zero, List.set_cons_succ]
   refine wpAnyE_takeY (i := 7) (oi := ?_) (v := .pointer (some ⟨(ad.add 8).block, (ad.add 8).off + 3, none⟩)) ?_ ?_ ?_ ?_ ?_ ?_ ?_ ?_
   rotate_left 1
   ·(try simp only [List.getElem?_toArray, List.getElem?_cons_succ, List.getElem?_cons_zero]); exact rfl
   ·kernel_rfl
   ·kernel_rfl
   ·kernel_rfl
   ·rfl
   ·exact fun _ _ _ h => h
   ·exact Or.inl ⟨by rfl, fun w _ => by go_simp⟩
   try simp only [Act.put, List.setIfInBounds_toArray, List.set_cons_zero, List.set_cons_succ]
   refine wpAnyE_takeY (i := 9) (oi := ?_) (v := .slice (some ad) 13 c) ?_ ?_ ?_ ?_ ?_ ?_ ?_ ?_
   rotate_left 1
   ·(try simp only [List.getElem?_toArray, List.getElem?_cons_succ, List.getElem?_cons_zero]); exact rfl
   ·kernel_rfl
   ·kernel_rfl
   ·kernel_rfl
   ·rfl
   ·exact fun _ _ _ h => h
   ·exact Or.inl ⟨by rfl, fun w _ => by go_simp⟩
   try simp only [Act.put, List.setIfInBounds_toArray, List.set_cons_zero, List.set_cons_succ]
   refine wpAnyE_takeY (i := 10) (oi := ?_) (v := .pointer (some (ad.add 12))) ?_ ?_ ?_ ?_ ?_ ?_ ?_ ?_
   rotate_left 1
   ·(try simp only [List.getElem?_toArray, List.getElem?_cons_succ, List.getElem?_cons_zero]); exact rfl
   ·kernel_rfl
   ·kernel_rfl
   ·kernel_rfl
   ·rfl
   ·exact fun _ _ _ h => h
   ·exact Or.inl ⟨by rfl, fun w _ => by go_simp⟩
   try simp only [Act.put, List.setIfInBounds_toArray, List.set_cons_zero, List.set_cons_succ]
   refine wpAnyE_takeY (i := 11) (oi := ?_) (v := .pointer (some ⟨(ad.add 12).block, (ad.add 12).off + 3, none⟩)) ?_ ?_ ?_ ?_ ?_ ?_ ?_ ?_
   rotate_left 1
   ·(try simp only [List.getElem?_toArray, List.getElem?_cons_succ, List.getElem?_cons_zero]); exact rfl
   ·kernel_rfl
   ·kernel_rfl
   ·kernel_rfl
   ·rfl
   ·exact fun _ _ _ h => h
   ·exact Or.inl ⟨by rfl, fun w _ => by go_simp⟩
   try simp only [Act.put, List.setIfInBounds_toArray, List.set_cons_zero, List.set_cons_succ]
   refine wpAnyE_takeY (i := 13) (oi := ?_) (v := .slice (some ad) 13 c) ?_ ?_ ?_ ?_ ?_ ?_ ?_ ?_
   rotate_left 1
   ·(try simp only [List.getElem?_toArray, List.getElem?_cons_succ, List.getElem?_cons_zero]); exact rfl
   ·kernel_rfl
   ·kernel_rfl
   ·kernel_rfl
   ·rfl
   ·exact fun _ _ _ h => h
   ·exact Or.inl ⟨by rfl, fun w _ => by go_simp⟩
   try simp only [Act.put, List.setIfInBounds_toArray, List.set_cons_zero, List.set_cons_succ]
   refine wpAnyE_takeY (i := 14) (oi := ?_) (v := .pointer (some (ad.add 16))) ?_ ?_ ?_ ?_ ?_ ?_ ?_ ?_
   rotate_left 1
   ·(try simp only [List.getElem?_toArray, List.getElem?_cons_succ, List.getElem?_cons_zero]); exact rfl
   ·kernel_rfl
   ·kernel_rfl
   ·kernel_rfl
   ·rfl
   ·exact fun _ _ _ h => h
   ·exact Or.inl ⟨by rfl, fun w _ => by go_simp⟩
   try simp only [Act.put, List.setIfInBounds_toArray, List.set_cons_zero, List.set_cons_succ]
   refine wpAnyE_takeY (i := 15) (oi := ?_) (v := .pointer (some ⟨(ad.add 16).block, (ad.add 16).off + 3, none⟩)) ?_ ?_ ?_ ?_ ?_ ?_ ?_ ?_
   rotate_left 1
   ·(try simp only [List.getElem?_toArray, List.getElem?_cons_succ, List.getElem?_cons_zero]); exact rfl
   ·kernel_rfl
   ·kernel_rfl
   ·kernel_rfl
   ·rfl
   ·exact fun _ _ _ h => h
   ·exact Or.inl ⟨by rfl, fun w _ => by go_simp⟩
   try simp only [Act.put, List.setIfInBounds_toArray, List.set_cons_zero, List.set_cons_succ]
   refine wpAnyE_takeY (i := 17) (oi := ?_) (v := .slice (some ad) 13 c) ?_ ?_ ?_ ?_ ?_ ?_ ?_ ?_
   rotate_left 1
   ·(try simp only [List.getElem?_toArray, List.getElem?_cons_succ, List.getElem?_cons_zero]); exact rfl
   ·kernel_rfl
   ·kernel_rfl
   ·kernel_rfl
   ·rfl
   ·exact fun _ _ _ h => h
   ·exact Or.inl ⟨by rfl, fun w _ => by go_simp⟩
   try simp only [Act.put, List.setIfInBounds_toArray, List.set_cons_zero, List.set_cons_succ]
   refine wpAnyE_takeY (i := 18) (oi := ?_) (v := .pointer (some (ad.add 20))) ?_ ?_ ?_ ?_ ?_ ?_ ?_ ?_
   rotate_left 1
   ·(try simp only [List.getElem?_toArray, List.getElem?_cons_succ, List.getElem?_cons_zero]); exact rfl
   ·kernel_rfl
   ·kernel_rfl
   ·kernel_rfl
   ·rfl
   ·exact fun _ _ _ h => h
   ·exact Or.inl ⟨by rfl, fun w _ => by go_simp⟩
   try simp only [Act.put, List.setIfInBounds_toArray, List.set_cons_zero, List.set_cons_succ]
   refine wpAnyE_takeY (i := 19) (oi := ?_) (v := .pointer (some ⟨(ad.add 20).block, (ad.add 20).off + 3, none⟩)) ?_ ?_ ?_ ?_ ?_ ?_ ?_ ?_
   rotate_left 1
   ·(try simp only [List.getElem?_toArray, List.getElem?_cons_succ, List.getElem?_cons_zero]); exact rfl
   ·kernel_rfl
   ·kernel_rfl
   ·kernel_rfl
   ·rfl
   ·exact fun _ _ _ h => h
   ·exact Or.inl ⟨by rfl, fun w _ => by go_simp⟩
   try simp only [Act.put, List.setIfInBounds_toArray, List.set_cons_zero, List.set_cons_succ]
   refine wpAnyE_takeY (i := 21) (oi := ?_) (v := .slice (some ad) 13 c) ?_ ?_ ?_ ?_ ?_ ?_ ?_ ?_
   rotate_left 1
   ·(try simp only [List.getElem?_toArray, List.getElem?_cons_succ, List.getElem?_cons_zero]); exact rfl
   ·kernel_rfl
   ·kernel_rfl
   ·kernel_rfl
   ·rfl
   ·exact fun _ _ _ h => h
   ·exact Or.inl ⟨by rfl, fun w _ => by go_simp⟩
   try simp only [Act.put, List.setIfInBounds_toArray, List.set_cons_zero, List.set_cons_succ]
   refine wpAnyE_takeY (i := 22) (oi := ?_) (v := .pointer (some (ad.add 24))) ?_ ?_ ?_ ?_ ?_ ?_ ?_ ?_
   rotate_left 1
   ·(try simp only [List.getElem?_toArray, List.getElem?_cons_succ, List.getElem?_cons_zero]); exact rfl
   ·kernel_rfl
   ·kernel_rfl
   ·kernel_rfl
   ·rfl
   ·exact fun _ _ _ h => h
   ·exact Or.inl ⟨by rfl, fun w _ => by go_simp⟩
   try simp only [Act.put, List.setIfInBounds_toArray, List.set_cons_zero, List.set_cons_succ]
   refine wpAnyE_takeY (i := 23) (oi := ?_) (v := .pointer (some ⟨(ad.add 24).block, (ad.add 24).off + 3, none⟩)) ?_ ?_ ?_ ?_ ?_ ?_ ?_ ?_
   rotate_left 1
   ·(try simp only [List.getElem?_toArray, List.getElem?_cons_succ, List.getElem?_cons_zero]); exact rfl
   ·kernel_rfl
   ·kernel_rfl
   ·kernel_rfl
   ·rfl
   ·exact fun _ _ _ h => h
   ·exact Or.inl ⟨by rfl, fun w _ => by go_simp⟩
   try simp only [Act.put, List.setIfInBounds_toArray, List.set_cons_zero, List.set_cons_succ]
   refine wpAnyE_takeY (i := 25) (oi := ?_) (v := .slice (some ad) 13 c) ?_ ?_ ?_ ?_ ?_ ?_ ?_ ?_
   rotate_left 1
   ·(try simp only [List.getElem?_toArray, List.getElem?_cons_succ, List.getElem?_cons_zero]); exact rfl
   ·kernel_rfl
   ·kernel_rfl
   ·kernel_rfl
   ·rfl
   ·exact fun _ _ _ h => h
   ·exact Or.inl ⟨by rfl, fun w _ => by go_simp⟩
   try simp only [Act.put, List.setIfInBounds_toArray, List.set_cons_zero, List.set_cons_succ]
   refine wpAnyE_takeY (i := 26) (oi := ?_) (v := .pointer (some (ad.add 28))) ?_ ?_ ?_ ?_ ?_ ?_ ?_ ?_
   rotate_left 1
   ·(try simp only [List.getElem?_toArray, List.getElem?_cons_succ, List.getElem?_cons_zero]); exact rfl
   ·kernel_rfl
   ·kernel_rfl
   ·kernel_rfl
   ·rfl
   ·exact fun _ _ _ h => h
   ·exact Or.inl ⟨by rfl, fun w _ => by go_simp⟩
   try simp only [Act.put, List.setIfInBounds_toArray, List.set_cons_zero, List.set_cons_succ]
   refine wpAnyE_takeY (i := 27) (oi := ?_) (v := .pointer (some ⟨(ad.add 28).block, (ad.add 28).off + 3, none⟩)) ?_ ?_ ?_ ?_ ?_ ?_ ?_ ?_
   rotate_left 1
   ·(try simp only [List.getElem?_toArray, List.getElem?_cons_succ, List.getElem?_cons_zero]); exact rfl
   ·kernel_rfl
   ·kernel_rfl
   ·kernel_rfl
   ·rfl
   ·exact fun _ _ _ h => h
   ·exact Or.inl ⟨by rfl, fun w _ => by go_simp⟩
   try simp only [Act.put, List.setIfInBounds_toArray, List.set_cons_zero, List.set_cons_succ]
   refine wpAnyE_takeY (i := 29) (oi := ?_) (v := .slice (some ad) 13 c) ?_ ?_ ?_ ?_ ?_ ?_ ?_ ?_
   rotate_left 1
   ·(try simp only [List.getElem?_toArray, List.getElem?_cons_succ, List.getElem?_cons_zero]); exact rfl
   ·kernel_rfl
   ·kernel_rfl
   ·kernel_rfl
   ·rfl
   ·exact fun _ _ _ h => h
   ·exact Or.inl ⟨by rfl, fun w _ => by go_simp⟩
   try simp only [Act.put, List.setIfInBounds_toArray, List.set_cons_zero, List.set_cons_succ]
   refine wpAnyE_takeY (i := 30) (oi := ?_) (v := .pointer (some (ad.add 32))) ?_ ?_ ?_ ?_ ?_ ?_ ?_ ?_
   rotate_left 1
   ·(try simp only [List.getElem?_toArray, List.getElem?_cons_succ, List.getElem?_cons_zero]); exact rfl
   ·kernel_rfl
   ·kernel_rfl
   ·kernel_rfl
   ·rfl
   ·exact fun _ _ _ h => h
   ·exact Or.inl ⟨by rfl, fun w _ => by go_simp⟩
   try simp only [Act.put, List.setIfInBounds_toArray, List.set_cons_zero, List.set_cons_succ]
   refine wpAnyE_takeY (i := 31) (oi := ?_) (v := .pointer (some ⟨(ad.add 32).block, (ad.add 32).off + 3, none⟩)) ?_ ?_ ?_ ?_ ?_ ?_ ?_ ?_
   rotate_left 1
   ·(try simp only [List.getElem?_toArray, List.getElem?_cons_succ, List.getElem?_cons_zero]); exact rfl
   ·kernel_rfl
   ·kernel_rfl
   ·kernel_rfl
   ·rfl
   ·exact fun _ _ _ h => h
   ·exact Or.inl ⟨by rfl, fun w _ => by go_simp⟩
   try simp only [Act.put, List.setIfInBounds_toArray, List.set_cons_zero, List.set_cons_succ]
   refine wpAnyE_take (i := 3) (oi := ?_) (v := .slice b1 l1.length d1) ?_ ?_ ?_ ?_ ?_ ?_ ?_ hSd ?_
   rotate_left 1
   ·(try simp only [List.getElem?_toArray, List.getElem?_cons_succ, List.getElem?_cons_zero]); exact rfl
   ·kernel_rfl
   ·kernel_rfl
   ·kernel_rfl
   ·kernel_rfl
   ·exact fun _ _ _ h => h
   ·refine Or.inl ⟨by rfl, fun w hSw => ?_⟩
    have q : w.cell? ⟨ad.block, ad.off + 4 + 3, none⟩ = some (.slice b1 l1.length d1) := ((H5.out.1.below hSw).at_ 1 _ _ rfl rfl).1.2.2.2
    clear hSw
    go_simp
   try simp only [Act.put, List.setIfInBounds_toArray, List.set_cons_zero, List.set_cons_succ]
   refine wpAnyE_take (i := 8) (oi := ?_) (v := .slice b2 l2.length d2) ?_ ?_ ?_ ?_ ?_ ?_ ?_ hSd ?_
   rotate_left 1
   ·(try simp only [List.getElem?_toArray, List.getElem?_cons_succ, List.getElem?_cons_zero]); exact rfl
   ·kernel_rfl
   ·kernel_rfl
   ·kernel_rfl
   ·kernel_rfl
   ·exact fun _ _ _ h => h
   ·refine Or.inl ⟨by rfl, fun w hSw => ?_⟩
    have q : w.cell? ⟨ad.block, ad.off + 8 + 3, none⟩ = some (.slice b2 l2.length d2) := ((H5.out.1.below hSw).at_ 2 _ _ rfl rfl).1.2.2.2
    clear hSw
    go_simp
   try simp only [Act.put, List.setIfInBounds_toArray, List.set_cons_zero, List.set_cons_succ]
   refine wpAnyE_take (i := 12) (oi := ?_) (v := .slice b3 l3.length d3) ?_ ?_ ?_ ?_ ?_ ?_ ?_ hSd ?_
   rotate_left 1
   ·(try simp only [List.getElem?_toArray, List.getElem?_cons_succ, List.getElem?_cons_zero]); exact rfl
   ·kernel_rfl
   ·kernel_rfl
   ·kernel_rfl
   ·kernel_rfl
   ·exact fun _ _ _ h => h
   ·refine Or.inl ⟨by rfl, fun w hSw => ?_⟩
    have q : w.cell? ⟨ad.block, ad.off + 12 + 3, none⟩ = some (.slice b3 l3.length d3) := ((H5.out.1.below hSw).at_ 3 _ _ rfl rfl).1.2.2.2
    clear hSw
    go_simp
   try simp only [Act.put, List.setIfInBounds_toArray, List.set_cons_zero, List.set_cons_succ]
   refine wpAnyE_take (i := 16) (oi := ?_) (v := .slice b4 l4.length d4) ?_ ?_ ?_ ?_ ?_ ?_ ?_ hSd ?_
   rotate_left 1
   ·(try simp only [List.getElem?_toArray, List.getElem?_cons_succ, List.getElem?_cons_zero]); exact rfl
   ·kernel_rfl
   ·kernel_rfl
   ·kernel_rfl
   ·kernel_rfl
   ·exact fun _ _ _ h => h
   ·refine Or.inl ⟨by rfl, fun w hSw => ?_⟩
    have q : w.cell? ⟨ad.block, ad.off + 16 + 3, none⟩ = some (.slice b4 l4.length d4) := ((H5.out.1.below hSw).at_ 4 _ _ rfl rfl).1.2.2.2
    clear hSw
    go_simp
   try simp only [Act.put, List.setIfInBounds_toArray, List.set_cons_zero, List.set_cons_succ]
   refine wpAnyE_take (i := 20) (oi := ?_) (v := .slice b5 l5.length d5) ?_ ?_ ?_ ?_ ?_ ?_ ?_ hSd ?_
   rotate_left 1
   ·(try simp only [List.getElem?_toArray, List.getElem?_cons_succ, List.getElem?_cons_zero]); exact rfl
   ·kernel_rfl
   ·kernel_rfl
   ·kernel_rfl
   ·kernel_rfl
   ·exact fun _ _ _ h => h
   ·refine Or.inl ⟨by rfl, fun w hSw => ?_⟩
    have q : w.cell? ⟨ad.block, ad.off + 20 + 3, none⟩ = some (.slice b5 l5.length d5) := ((H5.out.1.below hSw).at_ 5 _ _ rfl rfl).1.2.2.2
    clear hSw
    go_simp
   try simp only [Act.put, List.setIfInBounds_toArray, List.set_cons_zero, List.set_cons_succ]
   refine wpAnyE_take (i := 24) (oi := ?_) (v := .slice b6 l6.length d6) ?_ ?_ ?_ ?_ ?_ ?_ ?_ hSd ?_
   rotate_left 1
   ·(try simp only [List.getElem?_toArray, List.getElem?_cons_succ, List.getElem?_cons_zero]); exact rfl
   ·kernel_rfl
   ·kernel_rfl
   ·kernel_rfl
   ·kernel_rfl
   ·exact fun _ _ _ h => h
   ·refine Or.inl ⟨by rfl, fun w hSw => ?_⟩
    have q : w.cell? ⟨ad.block, ad.off + 24 + 3, none⟩ = some (.slice b6 l6.length d6) := ((H5.out.1.below hSw).at_ 6 _ _ rfl rfl).1.2.2.2
    clear hSw
    go_simp
   try simp only [Act.put, List.setIfInBounds_toArray, List.set_cons_zero, List.set_cons_succ]
   refine wpAnyE_take (i := 28) (oi := ?_) (v := .slice b7 l7.length d7) ?_ ?_ ?_ ?_ ?_ ?_ ?_ hSd ?_
   rotate_left 1
   ·(try simp only [List.getElem?_toArray, List.getElem?_cons_succ, List.getElem?_cons_zero]); exact rfl
   ·kernel_rfl
   ·kernel_rfl
   ·kernel_rfl
   ·kernel_rfl
   ·exact fun _ _ _ h => h
   ·refine Or.inl ⟨by rfl, fun w hSw => ?_⟩
    have q : w.cell? ⟨ad.block, ad.off + 28 + 3, none⟩ = some (.slice b7 l7.length d7) := ((H5.out.1.below hSw).at_ 7 _ _ rfl rfl).1.2.2.2
    clear hSw
    go_simp
   try simp only [Act.put, List.setIfInBounds_toArray, List.set_cons_zero, List.set_cons_succ]
   refine wpAnyE_take (i := 32) (oi := ?_) (v := .slice b8 l8.length d8) ?_ ?_ ?_ ?_ ?_ ?_ ?_ hSd ?_
   rotate_left 1
   ·(try simp only [List.getElem?_toArray, List.getElem?_cons_succ, List.getElem?_cons_zero]); exact rfl
   ·kernel_rfl
   ·kernel_rfl
   ·kernel_rfl
   ·kernel_rfl
   ·exact fun _ _ _ h => h
   ·refine Or.inl ⟨by rfl, fun w hSw => ?_⟩
    have q : w.cell? ⟨ad.block, ad.off + 32 + 3, none⟩ = some (.slice b8 l8.length d8) := ((H5.out.1.below hSw).at_ 8 _ _ rfl rfl).1.2.2.2
    clear hSw
    go_simp
   try simp only [Act.put, List.setIfInBounds_toArray, List.set_cons_zero, List.set_cons_succ]
   refine wpAnyE_ready (rs := [4]) (by kernel_rfl) (by simp) ?_
   refine AllReadyE.cons (o := ?_) ?_ (fun K hK => ?_) AllReadyE.nil
   rotate_left 1
   ·(try simp only [List.getElem?_toArray, List.getElem?_cons_succ, List.getElem?_cons_zero]); exact rfl
   refine step_call1 (u := .slice b1 l1.length d1) (f := 56) rfl (callPl (x := .tmp 45) _ rfl _ (by rfl) _) (HPl.out _ hSd) ?_
   rintro e w8 ⟨rfl, rfl⟩
   refine ⟨_, rfl, ?_⟩
   refine hK.out _ _ hSd (fun _ => ?_)
   clear hK K
   try simp only [Act.put, List.setIfInBounds_toArray, List.set_cons_zero, List.set_cons_succ]
   refine wpAnyE_take (i := 33) (oi := ?_) (v := .agg #[.slice b1 (plainM l1).length d1, .slice b2 l2.length d2, .slice b3 l3.length d3, .slice b4 l4.length d4, .slice b5 l5.length d5, .slice b6 l6.length d6, .slice b7 l7.length d7, .slice b8 l8.length d8]) ?_ ?_ ?_ ?_ ?_ ?_ ?_ hSd ?_
   rotate_left 1
   ·(try simp only [List.getElem?_toArray, List.getElem?_cons_succ, List.getElem?_cons_zero]); exact rfl
   ·kernel_rfl
   ·kernel_rfl
   ·kernel_rfl
   ·kernel_rfl
   ·exact fun _ _ _ h => h
   ·refine Or.inl ⟨by rfl, fun w hSw => ?_⟩
    clear hSw
    go_simp
   try simp only [Act.put, List.setIfInBounds_toArray, List.set_cons_zero, List.set_cons_succ]
   refine wpAnyE_takeY (i := 34) (oi := ?_) (v := .pointer (some ⟨xb, 1, none⟩)) ?_ ?_ ?_ ?_ ?_ ?_ ?_ ?_
   rotate_left 1
   ·(try simp only [List.getElem?_toArray, List.getElem?_cons_succ, List.getElem?_cons_zero]); exact rfl
   ·kernel_rfl
   ·kernel_rfl
   ·kernel_rfl
   ·rfl
   ·exact fun _ _ _ h => h
   ·exact Or.inl ⟨by rfl, fun w _ => by go_simp⟩
   try simp only [Act.put, List.setIfInBounds_toArray, List.set_cons_zero, List.set_cons_succ]
   refine wpAnyE_ready (rs := [35]) (by kernel_rfl) (by simp) ?_
   refine AllReadyE.late (o := ?_) ?_ rfl (fun K hK => ?_) AllReadyE.nil
   rotate_left 1
   ·(try simp only [List.getElem?_toArray, List.getElem?_cons_succ, List.getElem?_cons_zero]); exact rfl
   refine step_skipA rfl (stoP8 (x := .tmp 76) (y := .tmp 75) _ rfl _ (by rfl) (by rfl) _ hXd) ?_
   refine hK.out _ _ ?_
   clear hK K
   try simp only [Act.put, List.setIfInBounds_toArray, List.set_cons_zero, List.set_cons_succ]
   refine wpAnyE_done (by kernel_rfl) ?_ _
   have hXn := sto8_blk hXd (.slice b1 (plainM l1).length d1) (.slice b2 l2.length d2) (.slice b3 l3.length d3) (.slice b4 l4.length d4) (.slice b5 l5.length d5) (.slice b6 l6.length d6) (.slice b7 l7.length d7) (.slice b8 l8.length d8)
   have hBn := sto8_bel (r := xb) hSd hxz (.slice b1 (plainM l1).length d1) (.slice b2 l2.length d2) (.slice b3 l3.length d3) (.slice b4 l4.length d4) (.slice b5 l5.length d5) (.slice b6 l6.length d6) (.slice b7 l7.length d7) (.slice b8 l8.length d8)
   generalize sto8 _ xb (.slice b1 (plainM l1).length d1) (.slice b2 l2.length d2) (.slice b3 l3.length d3) (.slice b4 l4.length d4) (.slice b5 l5.length d5) (.slice b6 l6.length d6) (.slice b7 l7.length d7) (.slice b8 l8.length d8) = w8 at hXn hBn ⊢
   clear hSd hXd HPl
   go_upto_region 9 with fail
   refine wp_region_E (fun W => Below W5.heap.size W5 W) (fun i => [3, 7, 8].contains i) (by kernel_rfl) ?_
   obtain ⟨Wd, hWd⟩ : ∃ Wd, Wd = w8.drew := ⟨_, rfl⟩
   have hSd : Below W5.heap.size W5 Wd := by rw [hWd]; exact hBn.drew
   have hXd : Blk Wd xb 45 #[.string (bs ck), .slice b1 (plainM l1).length d1, .slice b2 l2.length d2, .slice b3 l3.length d3, .slice b4 l4.length d4, .slice b5 l5.length d5, .slice b6 l6.length d6, .slice b7 l7.length d7, .slice b8 l8.length d8, .slice none 0 0, .slice none 0 0, .bool false, .bool false, .bool false, .bool false, .bool (f == 1)] := by rw [hWd]; exact hXn
   rw [← hWd]
   clear hWd hBn hXn
   refine wpAnyE_takeY (i := 0) (oi := ?_) (v := .slice (some ad) 13 c) ?_ ?_ ?_ ?_ ?_ ?_ ?_ ?_
   rotate_left 1
   ·(try simp only [List.getElem?_toArray, List.getElem?_cons_succ, List.getElem?_cons_zero]); exact rfl
   ·kernel_rfl
   ·kernel_rfl
   ·kernel_rfl
   ·rfl
   ·exact fun _ _ _ h => h
   ·exact Or.inl ⟨by rfl, fun w _ => by go_simp⟩
   try simp only [Act.put, List.setIfInBounds_toArray, List.set_cons_zero, List.set_cons_succ]
   refine wpAnyE_takeY (i := 1) (oi := ?_) (v := .pointer (some (ad.add 36))) ?_ ?_ ?_ ?_ ?_ ?_ ?_ ?_
   rotate_left 1
   ·(try simp only [List.getElem?_toArray, List.getElem?_cons_succ, List.getElem?_cons_zero]); exact rfl
   ·kernel_rfl
   ·kernel_rfl
   ·kernel_rfl
   ·rfl
   ·exact fun _ _ _ h => h
   ·exact Or.inl ⟨by rfl, fun w _ => by go_simp⟩
   try simp only [Act.put, List.setIfInBounds_toArray, List.set_cons_zero, List.set_cons_succ]
   refine wpAnyE_takeY (i := 2) (oi := ?_) (v := .pointer (some ⟨(ad.add 36).block, (ad.add 36).off + 3, none⟩)) ?_ ?_ ?_ ?_ ?_ ?_ ?_ ?_
   rotate_left 1
   ·(try simp only [List.getElem?_toArray, List.getElem?_cons_succ, List.getElem?_cons_zero]); exact rfl
   ·kernel_rfl
   ·kernel_rfl
   ·kernel_rfl
   ·rfl
   ·exact fun _ _ _ h => h
   ·exact Or.inl ⟨by rfl, fun w _ => by go_simp⟩
   try simp only [Act.put, List.setIfInBounds_toArray, List.set_cons_zero, List.set_cons_succ]
   refine wpAnyE_takeY (i := 4) (oi := ?_) (v := .slice (some ad) 13 c) ?_ ?_ ?_ ?_ ?_ ?_ ?_ ?_
   rotate_left 1
   ·(try simp only [List.getElem?_toArray, List.getElem?_cons_succ, List.getElem?_cons_zero]); exact rfl
   ·kernel_rfl
   ·kernel_rfl
   ·kernel_rfl
   ·rfl
   ·exact fun _ _ _ h => h
   ·exact Or.inl ⟨by rfl, fun w _ => by go_simp⟩
   try simp only [Act.put, List.setIfInBounds_toArray, List.set_cons_zero, List.set_cons_succ]
   refine wpAnyE_takeY (i := 5) (oi := ?_) (v := .pointer (some (ad.add 40))) ?_ ?_ ?_ ?_ ?_ ?_ ?_ ?_
   rotate_left 1
   ·(try simp only [List.getElem?_toArray, List.getElem?_cons_succ, List.getElem?_cons_zero]); exact rfl
   ·kernel_rfl
   ·kernel_rfl
   ·kernel_rfl
   ·rfl
   ·exact fun _ _ _ h => h
   ·exact Or.inl ⟨by rfl, fun w _ => by go_simp⟩
   try simp only [Act.put, List.setIfInBounds_toArray, List.set_cons_zero, List.set_cons_succ]
   refine wpAnyE_takeY (i := 6) (oi := ?_) (v := .pointer (some ⟨(ad.add 40).block, (ad.add 40).off + 3, none⟩)) ?_ ?_ ?_ ?_ ?_ ?_ ?_ ?_
   rotate_left 1
   ·(try simp only [List.getElem?_toArray, List.getElem?_cons_succ, List.getElem?_cons_zero]); exact rfl
   ·kernel_rfl
   ·kernel_rfl
   ·kernel_rfl
   ·rfl
   ·exact fun _ _ _ h => h
   ·exact Or.inl ⟨by rfl, fun w _ => by go_simp⟩
   try simp only [Act.put, List.setIfInBounds_toArray, List.set_cons_zero, List.set_cons_succ]
   refine wpAnyE_take (i := 3) (oi := ?_) (v := .slice b9 l9.length d9) ?_ ?_ ?_ ?_ ?_ ?_ ?_ hSd ?_
   rotate_left 1
   ·(try simp only [List.getElem?_toArray, List.getElem?_cons_succ, List.getElem?_cons_zero]); exact rfl
   ·kernel_rfl
   ·kernel_rfl
   ·kernel_rfl
   ·kernel_rfl
   ·exact fun _ _ _ h => h
   ·refine Or.inl ⟨by rfl, fun w hSw => ?_⟩
    have q : w.cell? ⟨ad.block, ad.off + 36 + 3, none⟩ = some (.slice b9 l9.length d9) := ((H5.out.1.below hSw).at_ 9 _ _ rfl rfl).1.2.2.2
    clear hSw
    go_simp
   try simp only [Act.put, List.setIfInBounds_toArray, List.set_cons_zero, List.set_cons_succ]
   refine wpAnyE_take (i := 7) (oi := ?_) (v := .slice b10 l10.length d10) ?_ ?_ ?_ ?_ ?_ ?_ ?_ hSd ?_
   rotate_left 1
   ·(try simp only [List.getElem?_toArray, List.getElem?_cons_succ, List.getElem?_cons_zero]); exact rfl
   ·kernel_rfl
   ·kernel_rfl
   ·kernel_rfl
   ·kernel_rfl
   ·exact fun _ _ _ h => h
   ·refine Or.inl ⟨by rfl, fun w hSw => ?_⟩
    have q : w.cell? ⟨ad.block, ad.off + 40 + 3, none⟩ = some (.slice b10 l10.length d10) := ((H5.out.1.below hSw).at_ 10 _ _ rfl rfl).1.2.2.2
    clear hSw
    go_simp
   try simp only [Act.put, List.setIfInBounds_toArray, List.set_cons_zero, List.set_cons_succ]
   refine wpAnyE_take (i := 8) (oi := ?_) (v := .agg #[.slice b9 l9.length d9, .slice b10 l10.length d10]) ?_ ?_ ?_ ?_ ?_ ?_ ?_ hSd ?_
   rotate_left 1
   ·(try simp only [List.getElem?_toArray, List.getElem?_cons_succ, List.getElem?_cons_zero]); exact rfl
   ·kernel_rfl
   ·kernel_rfl
   ·kernel_rfl
   ·kernel_rfl
   ·exact fun _ _ _ h => h
   ·refine Or.inl ⟨by rfl, fun w hSw => ?_⟩
    clear hSw
    go_simp
   try simp only [Act.put, List.setIfInBounds_toArray, List.set_cons_zero, List.set_cons_succ]
   refine wpAnyE_takeY (i := 9) (oi := ?_) (v := .pointer (some ⟨xb, 9, none⟩)) ?_ ?_ ?_ ?_ ?_ ?_ ?_ ?_
   rotate_left 1
   ·(try simp only [List.getElem?_toArray, List.getElem?_cons_succ, List.getElem?_cons_zero]); exact rfl
   ·kernel_rfl
   ·kernel_rfl
   ·kernel_rfl
   ·rfl
   ·exact fun _ _ _ h => h
   ·exact Or.inl ⟨by rfl, fun w _ => by go_simp⟩
   try simp only [Act.put, List.setIfInBounds_toArray, List.set_cons_zero, List.set_cons_succ]
   refine wpAnyE_ready (rs := [10]) (by kernel_rfl) (by simp) ?_
   refine AllReadyE.late (o := ?_) ?_ rfl (fun K hK => ?_) AllReadyE.nil
   rotate_left 1
   ·(try simp only [List.getElem?_toArray, List.getElem?_cons_succ, List.getElem?_cons_zero]); exact rfl
   refine step_skipA rfl (stoL2 (x := .tmp 86) (y := .tmp 85) _ rfl _ (by rfl) (by rfl) _ hXd (by simp)) ?_
   refine hK.out _ _ ?_
   clear hK K
   try simp only [Act.put, List.setIfInBounds_toArray, List.set_cons_zero, List.set_cons_succ]
   refine wpAnyE_done (by kernel_rfl) ?_ _
   have hXn : Blk ((Wd.setCell ⟨xb, 9, none⟩ (.slice b9 l9.length d9)).setCell ⟨xb, 10, none⟩ (.slice b10 l10.length d10)) xb 45 #[.string (bs ck), .slice b1 (plainM l1).length d1, .slice b2 l2.length d2, .slice b3 l3.length d3, .slice b4 l4.length d4, .slice b5 l5.length d5, .slice b6 l6.length d6, .slice b7 l7.length d7, .slice b8 l8.length d8, .slice b9 l9.length d9, .slice b10 l10.length d10, .bool false, .bool false, .bool false, .bool false, .bool (f == 1)] := by simpa using (hXd.set_ 9 (.slice b9 l9.length d9)).set_ 10 (.slice b10 l10.length d10)
   have hBn := (hSd.setCell (p := ⟨xb, 9, none⟩) hxz (.slice b9 l9.length d9)).setCell (p := ⟨xb, 10, none⟩) hxz (.slice b10 l10.length d10)
   generalize ((Wd.setCell ⟨xb, 9, none⟩ (.slice b9 l9.length d9)).setCell ⟨xb, 10, none⟩ (.slice b10 l10.length d10)) = w9 at hXn hBn ⊢
   clear hSd hXd
   go_upto_region 10 with fail
   have q := ((H5.out.1.below hBn).at_ 1 _ _ rfl rfl).1.2.2.2
   have q : w9.cell? ⟨ad.block, ad.off + 4 + 3, none⟩ = some (.slice b1 l1.length d1) := q
   have x0 := hXn.cell 11
   have x1 := hXn.frozen 11
   simp at x0
   have HH := hide (show Calls Tryz.prog 57 #[.slice b1 l1.length d1, .string ⟨#[101, 120, 116, 45, 105, 110, 102, 111, 45, 99]⟩] w9 (fun e w' => e = .returned (.bool (decide (mark0 ∈ l1))) ∧ w' = w9) from rhas_any ((H5.out.1.below hBn).at_ 1 _ _ rfl rfl).2.txc.1 (by have := HD.out.2.2 l1 (by simp); omega) mark0)
   have HXB := hide (And.intro hXn hBn)
   clear hXn hBn
   go_upto_region 11 with (first
    | (go_at_call 57; refine HH.out.mono ?_; rintro e wq ⟨rfl, hwq⟩; rw [hwq]; clear hwq wq)
    | fail)
   have hXn : Blk (w9.setCell ⟨xb, 11, none⟩ (.bool (decide (mark0 ∈ l1)))) xb 45 #[.string (bs ck), .slice b1 (plainM l1).length d1, .slice b2 l2.length d2, .slice b3 l3.length d3, .slice b4 l4.length d4, .slice b5 l5.length d5, .slice b6 l6.length d6, .slice b7 l7.length d7, .slice b8 l8.length d8, .slice b9 l9.length d9, .slice b10 l10.length d10, .bool (decide (mark0 ∈ l1)), .bool false, .bool false, .bool false, .bool (f == 1)] := by have := HXB.out.1.set_ 11 (.bool (decide (mark0 ∈ l1))); simpa using this
   have hBn := HXB.out.2.setCell (p := ⟨xb, 11, none⟩) hxz (.bool (decide (mark0 ∈ l1)))
   clear q x0 x1 HH HXB
   generalize w9.setCell ⟨xb, 11, none⟩ (.bool (decide (mark0 ∈ l1))) = w10 at hXn hBn ⊢
   have q := ((H5.out.1.below hBn).at_ 1 _ _ rfl rfl).1.2.2.2
   have q : w10.cell? ⟨ad.block, ad.off + 4 + 3, none⟩ = some (.slice b1 l1.length d1) := q
   have x0 := hXn.cell 12
   have x1 := hXn.frozen 12
   simp at x0
   have HH := hide (show Calls Tryz.prog 57 #[.slice b1 l1.length d1, .string ⟨#[101, 120, 116, 45, 105, 110, 102, 111, 45, 115]⟩] w10 (fun e w' => e = .returned (.bool (decide (mark1 ∈ l1))) ∧ w' = w10) from rhas_any ((H5.out.1.below hBn).at_ 1 _ _ rfl rfl).2.txc.1 (by have := HD.out.2.2 l1 (by simp); omega) mark1)
   have HXB := hide (And.intro hXn hBn)
   clear hXn hBn
   go_upto_region 12 with (first
    | (go_at_call 57; refine HH.out.mono ?_; rintro e wq ⟨rfl, hwq⟩; rw [hwq]; clear hwq wq)
    | fail)
   have hXn : Blk (w10.setCell ⟨xb, 12, none⟩ (.bool (decide (mark1 ∈ l1)))) xb 45 #[.string (bs ck), .slice b1 (plainM l1).length d1, .slice b2 l2.length d2, .slice b3 l3.length d3, .slice b4 l4.length d4, .slice b5 l5.length d5, .slice b6 l6.length d6, .slice b7 l7.length d7, .slice b8 l8.length d8, .slice b9 l9.length d9, .slice b10 l10.length d10, .bool (decide (mark0 ∈ l1)), .bool (decide (mark1 ∈ l1)), .bool false, .bool false, .bool (f == 1)] := by have := HXB.out.1.set_ 12 (.bool (decide (mark1 ∈ l1))); simpa using this
   have hBn := HXB.out.2.setCell (p := ⟨xb, 12, none⟩) hxz (.bool (decide (mark1 ∈ l1)))
   clear q x0 x1 HH HXB
   generalize w10.setCell ⟨xb, 12, none⟩ (.bool (decide (mark1 ∈ l1))) = w11 at hXn hBn ⊢
   have q := ((H5.out.1.below hBn).at_ 1 _ _ rfl rfl).1.2.2.2
   have q : w11.cell? ⟨ad.block, ad.off + 4 + 3, none⟩ = some (.slice b1 l1.length d1) := q
   have x0 := hXn.cell 13
   have x1 := hXn.frozen 13
   simp at x0
   have HH := hide (show Calls Tryz.prog 57 #[.slice b1 l1.length d1, .string ⟨#[107, 101, 120, 45, 115, 116, 114, 105, 99, 116, 45, 99, 45, 118, 48, 48]⟩] w11 (fun e w' => e = .returned (.bool (decide (mark2 ∈ l1))) ∧ w' = w11) from rhas_any ((H5.out.1.below hBn).at_ 1 _ _ rfl rfl).2.txc.1 (by have := HD.out.2.2 l1 (by simp); omega) mark2)
   have HXB := hide (And.intro hXn hBn)
   clear hXn hBn
   go_upto_region 13 with (first
    | (go_at_call 57; refine HH.out.mono ?_; rintro e wq ⟨rfl, hwq⟩; rw [hwq]; clear hwq wq)
    | fail)
   have hXn : Blk (w11.setCell ⟨xb, 13, none⟩ (.bool (decide (mark2 ∈ l1)))) xb 45 #[.string (bs ck), .slice b1 (plainM l1).length d1, .slice b2 l2.length d2, .slice b3 l3.length d3, .slice b4 l4.length d4, .slice b5 l5.length d5, .slice b6 l6.length d6, .slice b7 l7.length d7, .slice b8 l8.length d8, .slice b9 l9.length d9, .slice b10 l10.length d10, .bool (decide (mark0 ∈ l1)), .bool (decide (mark1 ∈ l1)), .bool (decide (mark2 ∈ l1)), .bool false, .bool (f == 1)] := by have := HXB.out.1.set_ 13 (.bool (decide (mark2 ∈ l1))); simpa using this
   have hBn := HXB.out.2.setCell (p := ⟨xb, 13, none⟩) hxz (.bool (decide (mark2 ∈ l1)))
   clear q x0 x1 HH HXB
   generalize w11.setCell ⟨xb, 13, none⟩ (.bool (decide (mark2 ∈ l1))) = w12 at hXn hBn ⊢
   have q := ((H5.out.1.below hBn).at_ 1 _ _ rfl rfl).1.2.2.2
   have q : w12.cell? ⟨ad.block, ad.off + 4 + 3, none⟩ = some (.slice b1 l1.length d1) := q
   have x0 := hXn.cell 14
   have x1 := hXn.frozen 14
   simp at x0
   have HH := hide (show Calls Tryz.prog 57 #[.slice b1 l1.length d1, .string ⟨#[107, 101, 120, 45, 115, 116, 114, 105, 99, 116, 45, 115, 45, 118, 48, 48]⟩] w12 (fun e w' => e = .returned (.bool (decide (mark3 ∈ l1))) ∧ w' = w12) from rhas_any ((H5.out.1.below hBn).at_ 1 _ _ rfl rfl).2.txc.1 (by have := HD.out.2.2 l1 (by simp); omega) mark3)
   have HXB := hide (And.intro hXn hBn)
   clear hXn hBn
   go_upto_region 14 with (first
    | (go_at_call 57; refine HH.out.mono ?_; rintro e wq ⟨rfl, hwq⟩; rw [hwq]; clear hwq wq)
    | fail)
   have hXn : Blk (w12.setCell ⟨xb, 14, none⟩ (.bool (decide (mark3 ∈ l1)))) xb 45 #[.string (bs ck), .slice b1 (plainM l1).length d1, .slice b2 l2.length d2, .slice b3 l3.length d3, .slice b4 l4.length d4, .slice b5 l5.length d5, .slice b6 l6.length d6, .slice b7 l7.length d7, .slice b8 l8.length d8, .slice b9 l9.length d9, .slice b10 l10.length d10, .bool (decide (mark0 ∈ l1)), .bool (decide (mark1 ∈ l1)), .bool (decide (mark2 ∈ l1)), .bool (decide (mark3 ∈ l1)), .bool (f == 1)] := by have := HXB.out.1.set_ 14 (.bool (decide (mark3 ∈ l1))); simpa using this
   have hBn := HXB.out.2.setCell (p := ⟨xb, 14, none⟩) hxz (.bool (decide (mark3 ∈ l1)))
   clear q x0 x1 HH HXB
   generalize w12.setCell ⟨xb, 14, none⟩ (.bool (decide (mark3 ∈ l1))) = w13 at hXn hBn ⊢
   have hzz : markedL (splitM l1).rest = false ∧ u = 0 := by
    obtain ⟨ck', l1', l2', l3', l4', l5', l6', l7', l8', l9', l10', f', h9, h8⟩ := HOK.out
    rw [HD.out.1] at h9
    injection h9 with _ h9
    obtain ⟨_, h7, _, h6⟩ := kexFs_inj (by rfl) (by rfl) h9
    injection h7 with h7 _
    rw [← h7] at h8
    exact ⟨h8, h6⟩
   have HZZ := hide hzz
   clear hzz
   have hN13 := parI_all (H5.out.1.below hBn) HD.out.2.2
   have hC13 : AllC w13 [.slice b1 (plainM l1).length d1, .slice b2 l2.length d2, .slice b3 l3.length d3, .slice b4 l4.length d4, .slice b5 l5.length d5, .slice b6 l6.length d6, .slice b7 l7.length d7, .slice b8 l8.length d8, .slice b9 l9.length d9, .slice b10 l10.length d10] [plainM l1, l2, l3, l4, l5, l6, l7, l8, l9, l10] := allC_of rfl hN13
   have hszf := rp_sz (p := pl.data.toList) Hpl.out HD.out.1 HD.out.2.1
   have HRB := hide (rbuild16_any (w := w13) (bs ck) (decide (mark0 ∈ l1)) (decide (mark1 ∈ l1)) (decide (mark2 ∈ l1)) (decide (mark3 ∈ l1)) (f == 1) (l := kexMsg ⟨ck, plainM l1, [l2, l3, l4, l5, l6, l7, l8, l9, l10], decide (mark0 ∈ l1), decide (mark1 ∈ l1), decide (mark2 ∈ l1), decide (mark3 ∈ l1), (f == 1)⟩) (hC13.2 0 _ _ rfl rfl).1.1 (by have := (hC13.2 0 _ (plainM l1) rfl rfl).2; omega) hszf (by show (13 : Nat) ≤ 1000; decide) (hide (fun W2 hb2 => rmsg16_any ck (decide (mark0 ∈ l1)) (decide (mark1 ∈ l1)) (decide (mark2 ∈ l1)) (decide (mark3 ∈ l1)) (f == 1) (hC13.below hb2))))
   have HXB := hide (And.intro hXn (And.intro hBn hN13))
   have HW0 := hide (show w.heap.size + 1 < W0.heap.size from HX.out.2.2.lt)
   have x0 := HXB.out.1.cell 0
   have x1 := HXB.out.1.cell 1
   have x2 := HXB.out.1.cell 2
   have x3 := HXB.out.1.cell 3
   have x4 := HXB.out.1.cell 4
   have x5 := HXB.out.1.cell 5
   have x6 := HXB.out.1.cell 6
   have x7 := HXB.out.1.cell 7
   have x8 := HXB.out.1.cell 8
   have x9 := HXB.out.1.cell 9
   have x10 := HXB.out.1.cell 10
   have x11 := HXB.out.1.cell 11
   have x12 := HXB.out.1.cell 12
   have x13 := HXB.out.1.cell 13
   have x14 := HXB.out.1.cell 14
   have x15 := HXB.out.1.cell 15
   simp only [List.getElem?_toArray, List.getElem?_cons_zero, List.getElem?_cons_succ] at x0 x1 x2 x3 x4 x5 x6 x7 x8 x9 x10 x11 x12 x13 x14 x15
   clear hXn hBn hC13 hszf hN13
   go_wp2_with fail
   refine HRB.out.mono ?_
   rintro e w14 ⟨hb14, hr14⟩
   clear HRB
   rcases hr14 with ⟨hmk, s2, hs2, rfl⟩ | ⟨ps2, k2, hk2, hk0, rfl⟩
   ·have hYES := rp_yes (p := pl.data.toList) Hpl.out HD.out.1 HD.out.2.1 hs2
    clear hs2 hmk
    have HY := hide hYES
    clear hYES
    have hbx := (Below.refl w14.heap.size w14).alloc (Nat.le_refl _) (.cells #[.int .i64 0, .string ⟨#[]⟩] 42)
    have hN5 := Blk.new w14 42 #[.int .i64 0, .string ⟨#[]⟩]
    have hbx13 := hb14.trans (hbx.mono hb14.size)
    have hb5x := HXB.out.2.1.trans (hbx13.mono HXB.out.2.1.size)
    go_upto_region 15 with fail
    generalize w14.alloc (.cells #[.int .i64 0, .string ⟨#[]⟩] 42) = w15 at hbx hN5 hb5x hbx13 ⊢
    generalize w14.heap.size = b15 at hN5 ⊢
    have e0c := hN5.cell 0
    simp at e0c
    have hXz := HXB.out.1.below hbx13 HXB.out.1.lt
    have hRz := H5.out.2.2.1.below hb5x H5.out.2.2.1.lt
    have hEz := H5.out.2.2.2.below hb5x H5.out.2.2.2.lt
    have hbz := H5.out.2.1.trans (hb5x.mono H5.out.2.1.size)
    clear x0 x1 x2 x3 x4 x5 x6 x7 x8 x9 x10 x11 x12 x13 x14 x15 hbx hb5x hb14
    rcases HY.out with ⟨he, hm, hu0⟩ | ⟨he, hor⟩
    ·have hpe : bs s2 = pl := by rw [he]; rfl
     have Hm := hide hm
     have Hu := hide hu0
     rw [hpe]
     clear hpe he hm hu0 HY
     have hss : (pl.toList == pl.toList) = true := beq_self_eq_true _
     have hss2 : (pl.toList != pl.toList) = false := by simp [bne]
     have x0 := hXz.cell 0
     have x1 := hXz.cell 1
     have x2 := hXz.cell 2
     have x3 := hXz.cell 3
     have x4 := hXz.cell 4
     have x5 := hXz.cell 5
     have x6 := hXz.cell 6
     have x7 := hXz.cell 7
     have x8 := hXz.cell 8
     have x9 := hXz.cell 9
     have x10 := hXz.cell 10
     have x11 := hXz.cell 11
     have x12 := hXz.cell 12
     have x13 := hXz.cell 13
     have x14 := hXz.cell 14
     have x15 := hXz.cell 15
     simp only [List.getElem?_toArray, List.getElem?_cons_zero, List.getElem?_cons_succ] at x0 x1 x2 x3 x4 x5 x6 x7 x8 x9 x10 x11 x12 x13 x14 x15
     have r0 := hRz.cell 0
     have t0 := hRz.frozen 0
     have r1 := hRz.cell 1
     have t1 := hRz.frozen 1
     have r2 := hRz.cell 2
     have t2 := hRz.frozen 2
     have r3 := hRz.cell 3
     have t3 := hRz.frozen 3
     have r4 := hRz.cell 4
     have t4 := hRz.frozen 4
     have r5 := hRz.cell 5
     have t5 := hRz.frozen 5
     have r6 := hRz.cell 6
     have t6 := hRz.frozen 6
     have r7 := hRz.cell 7
     have t7 := hRz.frozen 7
     have r8 := hRz.cell 8
     have t8 := hRz.frozen 8
     have r9 := hRz.cell 9
     have t9 := hRz.frozen 9
     have r10 := hRz.cell 10
     have t10 := hRz.frozen 10
     have r11 := hRz.cell 11
     have t11 := hRz.frozen 11
     have r12 := hRz.cell 12
     have t12 := hRz.frozen 12
     have r13 := hRz.cell 13
     have t13 := hRz.frozen 13
     have r14 := hRz.cell 14
     have t14 := hRz.frozen 14
     have r15 := hRz.cell 15
     have t15 := hRz.frozen 15
     simp at r0 r1 r2 r3 r4 r5 r6 r7 r8 r9 r10 r11 r12 r13 r14 r15
     have y0 := hEz.cell 0
     have y1 := hEz.cell 1
     have s0 := hEz.frozen 0
     have s1 := hEz.frozen 1
     simp at y0 y1
     go_wp2_with fail
     obtain ⟨hF, hG, hbF⟩ := rok_fin (.string (bs ck)) (.slice b1 (plainM l1).length d1) (.slice b2 l2.length d2) (.slice b3 l3.length d3) (.slice b4 l4.length d4) (.slice b5 l5.length d5) (.slice b6 l6.length d6) (.slice b7 l7.length d7) (.slice b8 l8.length d8) (.slice b9 l9.length d9) (.slice b10 l10.length d10) (.bool (decide (mark0 ∈ l1))) (.bool (decide (mark1 ∈ l1))) (.bool (decide (mark2 ∈ l1))) (.bool (decide (mark3 ∈ l1))) (.bool (f == 1)) hRz hEz hbz (Nat.le_refl _)
     have hNF := fun (i : Nat) v l (h1 : ([.slice b1 (plainM l1).length d1, .slice b2 l2.length d2, .slice b3 l3.length d3, .slice b4 l4.length d4, .slice b5 l5.length d5, .slice b6 l6.length d6, .slice b7 l7.length d7, .slice b8 l8.length d8, .slice b9 l9.length d9, .slice b10 l10.length d10] : List Value)[i]? = some v) (h2 : ([plainM l1, l2, l3, l4, l5, l6, l7, l8, l9, l10] : List (List (List UInt8)))[i]? = some l) => And.intro (rok_new ((HXB.out.2.2 i v l h1 h2).1.belowW hbx13) HW0.out (.string (bs ck)) (.slice b1 (plainM l1).length d1) (.slice b2 l2.length d2) (.slice b3 l3.length d3) (.slice b4 l4.length d4) (.slice b5 l5.length d5) (.slice b6 l6.length d6) (.slice b7 l7.length d7) (.slice b8 l8.length d8) (.slice b9 l9.length d9) (.slice b10 l10.length d10) (.bool (decide (mark0 ∈ l1))) (.bool (decide (mark1 ∈ l1))) (.bool (decide (mark2 ∈ l1))) (.bool (decide (mark3 ∈ l1))) (.bool (f == 1))) (HXB.out.2.2 i v l h1 h2).2
     obtain ⟨wF, hwF⟩ : ∃ wF, wF = (((sto16 w15 w.heap.size (.string (bs ck)) (.slice b1 (plainM l1).length d1) (.slice b2 l2.length d2) (.slice b3 l3.length d3) (.slice b4 l4.length d4) (.slice b5 l5.length d5) (.slice b6 l6.length d6) (.slice b7 l7.length d7) (.slice b8 l8.length d8) (.slice b9 l9.length d9) (.slice b10 l10.length d10) (.bool (decide (mark0 ∈ l1))) (.bool (decide (mark1 ∈ l1))) (.bool (decide (mark2 ∈ l1))) (.bool (decide (mark3 ∈ l1))) (.bool (f == 1))).setCell ⟨w.heap.size + 1, 0, none⟩ (.int .i64 0)).setCell ⟨w.heap.size + 1, 1, none⟩ (.string ⟨#[]⟩)) := ⟨_, rfl⟩
     have hch : ((((((((((((((((((w15.setCell ⟨w.heap.size, 0, none⟩ (.string (bs ck))).setCell ⟨w.heap.size, 1, none⟩ (.slice b1 (plainM l1).length d1)).setCell ⟨w.heap.size, 2, none⟩ (.slice b2 l2.length d2)).setCell ⟨w.heap.size, 3, none⟩ (.slice b3 l3.length d3)).setCell ⟨w.heap.size, 4, none⟩ (.slice b4 l4.length d4)).setCell ⟨w.heap.size, 5, none⟩ (.slice b5 l5.length d5)).setCell ⟨w.heap.size, 6, none⟩ (.slice b6 l6.length d6)).setCell ⟨w.heap.size, 7, none⟩ (.slice b7 l7.length d7)).setCell ⟨w.heap.size, 8, none⟩ (.slice b8 l8.length d8)).setCell ⟨w.heap.size, 9, none⟩ (.slice b9 l9.length d9)).setCell ⟨w.heap.size, 10, none⟩ (.slice b10 l10.length d10)).setCell ⟨w.heap.size, 11, none⟩ (.bool (decide (mark0 ∈ l1)))).setCell ⟨w.heap.size, 12, none⟩ (.bool (decide (mark1 ∈ l1)))).setCell ⟨w.heap.size, 13, none⟩ (.bool (decide (mark2 ∈ l1)))).setCell ⟨w.heap.size, 14, none⟩ (.bool (decide (mark3 ∈ l1)))).setCell ⟨w.heap.size, 15, none⟩ (.bool (f == 1))).setCell ⟨w.heap.size + 1, 0, none⟩ (.int .i64 0)).setCell ⟨w.heap.size + 1, 1, none⟩ (.string ⟨#[]⟩)) = wF := hwF.symm
     rw [← hwF] at hF hG hbF hNF
     rw [hch]
     clear hwF hch r0 t0 r1 t1 r2 t2 r3 t3 r4 t4 r5 t5 r6 t6 r7 t7 r8 t8 r9 t9 r10 t10 r11 t11 r12 t12 r13 t13 r14 t14 r15 t15 y0 y1 s0 s1 x0 x1 x2 x3 x4 x5 x6 x7 x8 x9 x10 x11 x12 x13 x14 x15 hRz hEz hbz hXz hbx13
     have q0 := hF.cell 0
     have q1 := hF.cell 1
     have q2 := hF.cell 2
     have q3 := hF.cell 3
     have q4 := hF.cell 4
     have q5 := hF.cell 5
     have q6 := hF.cell 6
     have q7 := hF.cell 7
     have q8 := hF.cell 8
     have q9 := hF.cell 9
     have q10 := hF.cell 10
     have q11 := hF.cell 11
     have q12 := hF.cell 12
     have q13 := hF.cell 13
     have q14 := hF.cell 14
     have q15 := hF.cell 15
     have q16 := hG.cell 0
     have q17 := hG.cell 1
     simp at q0 q1 q2 q3 q4 q5 q6 q7 q8 q9 q10 q11 q12 q13 q14 q15 q16 q17
     obtain ⟨_, hp, ha, hb', hc', hd'⟩ := split_yes Hm.out
     have HF := hide (show RParP pl.data.toList w (.returned (.tuple #[.agg #[.string (bs ck), .slice b1 (plainM l1).length d1, .slice b2 l2.length d2, .slice b3 l3.length d3, .slice b4 l4.length d4, .slice b5 l5.length d5, .slice b6 l6.length d6, .slice b7 l7.length d7, .slice b8 l8.length d8, .slice b9 l9.length d9, .slice b10 l10.length d10, .bool (decide (mark0 ∈ l1)), .bool (decide (mark1 ∈ l1)), .bool (decide (mark2 ∈ l1)), .bool (decide (mark3 ∈ l1)), .bool (f == 1)], .agg #[.int .i64 0, .string ⟨#[]⟩]])) wF from ⟨hbF, .inl ⟨ck, l1, l2, l3, l4, l5, l6, l7, l8, l9, l10, f, b1, (plainM l1).length, d1, b2, l2.length, d2, b3, l3.length, d3, b4, l4.length, d4, b5, l5.length, d5, b6, l6.length, d6, b7, l7.length, d7, b8, l8.length, d8, b9, l9.length, d9, b10, l10.length, d10, by have := HD.out.1; rwa [Hu.out] at this, HD.out.2.1, Hm.out, by rw [← ha, ← hb', ← hc', ← hd'], by rw [← hp]; exact allC_of rfl hNF⟩⟩)
     clear hF hG hbF hNF hp ha hb' hc' hd'
     exact bodyPost_ret (v := .tuple #[.agg #[.string (bs ck), .slice b1 (plainM l1).length d1, .slice b2 l2.length d2, .slice b3 l3.length d3, .slice b4 l4.length d4, .slice b5 l5.length d5, .slice b6 l6.length d6, .slice b7 l7.length d7, .slice b8 l8.length d8, .slice b9 l9.length d9, .slice b10 l10.length d10, .bool (decide (mark0 ∈ l1)), .bool (decide (mark1 ∈ l1)), .bool (decide (mark2 ∈ l1)), .bool (decide (mark3 ∈ l1)), .bool (f == 1)], .agg #[.int .i64 0, .string ⟨#[]⟩]]) (by simp [results, Tryz.results20, go_sem, q0, q1, q2, q3, q4, q5, q6, q7, q8, q9, q10, q11, q12, q13, q14, q15, q16, q17]) rfl HF.out
    ·exfalso
     rcases hor with h | h
     ·rw [HZZ.out.1] at h; cases h
     ·exact h HZZ.out.2
   ·have HO := hide (rp_no (p := pl.data.toList) HD.out.1 HD.out.2.1 hk2)
    exfalso
    rcases HO.out with h | h
    ·rw [HZZ.out.1] at h; cases h
    ·exact h HZZ.out.2
  ·obtain ⟨_, _, _, _, _, _, _, _, _, _, _, _, h9, _⟩ := HOK.out
   rw [hd] at h9
   injection h9 with h9 _
   exact absurd h9 hn
 ·obtain ⟨_, _, _, _, _, _, _, _, _, _, _, _, h9, _⟩ := HOK.out
  rw [h9] at hk
  cases hk
set_option maxHeartbeats 40000000 in
set_option maxRecDepth 100000 in
theorem rparse16_n1 {w : World} (pl : ByteArray) (hpl : pl.size ≤ 2000) (hok : (∃ l, decS pl.data.toList = .ok 20 l) ∧ (∀ ck l1 l2 l3 l4 l5 l6 l7 l8 l9 l10 f, decS pl.data.toList = .ok 20 (kexFs ck [l1, l2, l3, l4, l5, l6, l7, l8, l9, l10] f 0) → markedL (splitM l1).rest = true) ∧ ∀ ck l1 l2 l3 l4 l5 l6 l7 l8 l9 l10 f u, decS pl.data.toList = .ok 20 (kexFs ck [l1, l2, l3, l4, l5, l6, l7, l8, l9, l10] f u) → ∃ s, encS 20 (kexMsg ⟨ck, plainM l1, [l2, l3, l4, l5, l6, l7, l8, l9, l10], decide (mark0 ∈ l1), decide (mark1 ∈ l1), decide (mark2 ∈ l1), decide (mark3 ∈ l1), (f == 1)⟩) = .ok s) : Calls Tryz.prog 20 #[.string pl] w (RParP pl.data.toList w) := by
 obtain ⟨W0, hW0⟩ : ∃ W0, W0 = (w.alloc (.cells #[.string ⟨#[]⟩, .slice none 0 0, .slice none 0 0, .slice none 0 0, .slice none 0 0, .slice none 0 0, .slice none 0 0, .slice none 0 0, .slice none 0 0, .slice none 0 0, .slice none 0 0, .bool false, .bool false, .bool false, .bool false, .bool false] 45)).alloc (.cells #[.int .i64 0, .string ⟨#[]⟩] 42) := ⟨_, rfl⟩
 have hb0 : Below w.heap.size w W0 := by rw [hW0]; (repeat (first | exact Below.refl _ _ | refine below_drewN ?_ _ | refine Below.drew ?_ | refine Below.alloc ?_ (by first | omega | (simp; done) | (simp; omega)) _ | refine Below.setCell ?_ (by first | omega | (simp; done) | (simp; omega)) _ | refine bel_alloc ?_ _ | refine bel_trans ?_ (by assumption) | refine Below.trans ?_ (Below.mono (by assumption) (by first | omega | (simp; done) | (simp; omega)))))
 have hR0 : Blk W0 w.heap.size 45 #[.string ⟨#[]⟩, .slice none 0 0, .slice none 0 0, .slice none 0 0, .slice none 0 0, .slice none 0 0, .slice none 0 0, .slice none 0 0, .slice none 0 0, .slice none 0 0, .slice none 0 0, .bool false, .bool false, .bool false, .bool false, .bool false] := by rw [hW0]; exact (Blk.new w _ _).alloc _
 have hE0 : Blk W0 (w.heap.size + 1) 42 #[.int .i64 0, .string ⟨#[]⟩] := by rw [hW0]; exact blk_new2 w _ _ _
 have HD := hide (rdecode_anyN (w := W0) pl (by omega))
 have HX := hide (And.intro hb0 (And.intro hR0 hE0))
 have HOK := hide hok
 have Hpl := hide hpl
 clear hb0 hR0 hE0 hok hpl
 go_enter Tryz.func20, Tryz.ntmps20
 go_upto_region 1 with fail
 rw [← hW0]
 clear hW0
 go_wp2_with fail
 refine HD.out.mono ?_
 rintro e w1 ⟨hb1, hr1⟩
 have hb01 := HX.out.1.trans (hb1.mono HX.out.1.size)
 have hR1 := HX.out.2.1.below hb1 HX.out.2.1.lt
 have hE1 := HX.out.2.2.below hb1 HX.out.2.2.lt
 have HS := hide (And.intro hb01 (And.intro hR1 hE1))
 clear HD hb1 hb01 hR1 hE1
 rcases hr1 with ⟨num, l, A, c, hd, rfl, hF⟩ | ⟨ps, k, hk, hk0, rfl⟩
 ·obtain ⟨W5, hW5⟩ : ∃ W5, W5 = (w1.alloc (.cells #[.int .i64 (num : Nat), .slice A l.length c] 86)).alloc (.cells #[.int .i64 0, .string ⟨#[]⟩] 42) := ⟨_, rfl⟩
  have hb15 : Below w1.heap.size w1 W5 := by rw [hW5]; (repeat (first | exact Below.refl _ _ | refine below_drewN ?_ _ | refine Below.drew ?_ | refine Below.alloc ?_ (by first | omega | (simp; done) | (simp; omega)) _ | refine Below.setCell ?_ (by first | omega | (simp; done) | (simp; omega)) _ | refine bel_alloc ?_ _ | refine bel_trans ?_ (by assumption) | refine Below.trans ?_ (Below.mono (by assumption) (by first | omega | (simp; done) | (simp; omega)))))
  have hM5 : Blk W5 w1.heap.size 86 #[.int .i64 (num : Nat), .slice A l.length c] := by rw [hW5]; exact (Blk.new w1 _ _).alloc _
  have hE5 : Blk W5 (w1.heap.size + 1) 42 #[.int .i64 0, .string ⟨#[]⟩] := by rw [hW5]; exact blk_new2 w1 _ _ _
  go_upto_region 2 with fail
  rw [← hW5]
  clear hW5
  have e0c := hE5.cell 0
  have m0 := hM5.cell 0
  have m1 := hM5.cell 1
  simp at e0c m0 m1
  by_cases hn : num = 20
  ·subst hn
   obtain ⟨ck, ls, f, u, hls, hl, hf, hu⟩ := dec_20 hd
   have hl13 : l.length = 13 := by rw [hl]; simp [kexFs, hls]
   rw [hl13] at hM5 m1
   clear hl13
   match ls, hls, hl with
   | [l1, l2, l3, l4, l5, l6, l7, l8, l9, l10], _, hl =>
   subst hl
   obtain ⟨ad, b0, d0, b1, d1, b2, d2, b3, d3, b4, d4, b5, d5, b6, d6, b7, d7, b8, d8, b9, d9, b10, d10, b11, d11, b12, d12, rfl, hP⟩ := hF.par
   have hlenK : ∀ k ∈ [l1, l2, l3, l4, l5, l6, l7, l8, l9, l10], k.length ≤ 1000000 := by
    intro k hk
    have := dec_len hd ⟨110, 0, [], k⟩ (by unfold kexFs; exact List.mem_cons_of_mem _ (List.mem_append_left _ (List.mem_map.2 ⟨k, hk, rfl⟩)))
    have h2 : k.length ≤ 16 := this
    omega
   have hP5 := hP.below hb15
   have hb5 := HS.out.1.trans (hb15.mono HS.out.1.size)
   have hR5 := HS.out.2.1.below hb15 HS.out.2.1.lt
   have hE9 := HS.out.2.2.below hb15 HS.out.2.2.lt
   have hx1 : ((20 : Int) == 20) = true := by decide
   have hx2 : ((20 : Int) != 20) = false := by decide
   have H5 := hide (And.intro hP5 (And.intro hb5 (And.intro hR5 hE9)))
   have HD := hide (And.intro hd (And.intro hf hlenK))
   clear hP hP5 hb5 hR5 hE9 hd hf hlenK hF hb15 HS hM5 hE5
   go_upto_region 7 with fail
   refine wp_region_E (fun W => Below W5.heap.size W5 W) (fun i => [3, 7, 8, 9, 10].contains i) (by kernel_rfl) ?_
   obtain ⟨Wd, hWd⟩ : ∃ Wd, Wd = W5.drew := ⟨_, rfl⟩
   have hSd : Below W5.heap.size W5 Wd := by rw [hWd]; exact (Below.refl _ _).drew
   rw [← hWd]
   clear hWd
   refine wpAnyE_takeY (i := 0) (oi := ?_) (v := .slice (some ad) 13 c) ?_ ?_ ?_ ?_ ?_ ?_ ?_ ?_
   rotate_left 1
   ·(try simp only [List.getElem?_toArray, List.getElem?_cons_succ, List.getElem?_cons_zero]); exact rfl
   ·kernel_rfl
   ·kernel_rfl
   ·kernel_rfl
   ·rfl
   ·exact fun _ _ _ h => h
   ·exact Or.inl ⟨by rfl, fun w _ => by go_simp⟩
   try simp only [Act.put, List.setIfInBounds_toArray, List.set_cons_zero, List.set_cons_succ]
   refine wpAnyE_takeY (i := 1) (oi := ?_) (v := .pointer (some ad)) ?_ ?_ ?_ ?_ ?_ ?_ ?_ ?_
   rotate_left 1
   ·(try simp only [List.getElem?_toArray, List.getElem?_cons_succ, List.getElem?_cons_zero]); exact rfl
   ·kernel_rfl
   ·kernel_rfl
   ·kernel_rfl
   ·rfl
   ·exact fun _ _ _ h => h
   ·exact Or.inl ⟨by rfl, fun w _ => by go_simp⟩
   try simp only [Act.put, List.setIfInBounds_toArray, List.set_cons_zero, List.set_cons_succ]
   refine wpAnyE_takeY (i := 2) (oi := ?_) (v := .pointer (some ⟨ad.block, ad.off + 2, none⟩)) ?_ ?_ ?_ ?_ ?_ ?_ ?_ ?_
   rotate_left 1
   ·(try simp only [List.getElem?_toArray, List.getElem?_cons_succ, List.getElem?_cons_zero]); exact rfl
   ·kernel_rfl
   ·kernel_rfl
   ·kernel_rfl
   ·rfl
   ·exact fun _ _ _ h => h
   ·exact Or.inl ⟨by rfl, fun w _ => by go_simp⟩
   try simp only [Act.put, List.setIfInBounds_toArray, List.set_cons_zero, List.set_cons_succ]
   refine wpAnyE_takeY (i := 4) (oi := ?_) (v := .slice (some ad) 13 c) ?_ ?_ ?_ ?_ ?_ ?_ ?_ ?_
   rotate_left 1
   ·(try simp only [List.getElem?_toArray, List.getElem?_cons_succ, List.getElem?_cons_zero]); exact rfl
   ·kernel_rfl
   ·kernel_rfl
   ·kernel_rfl
   ·rfl
   ·exact fun _ _ _ h => h
   ·exact Or.inl ⟨by rfl, fun w _ => by go_simp⟩
   try simp only [Act.put, List.setIfInBounds_toArray, List.set_cons_zero, List.set_cons_succ]
   refine wpAnyE_takeY (i := 5) (oi := ?_) (v := .pointer (some (ad.add 44))) ?_ ?_ ?_ ?_ ?_ ?_ ?_ ?_
   rotate_left 1
   ·(try simp only [List.getElem?_toArray, List.getElem?_cons_succ, List.getElem?_cons_zero]); exact rfl
   ·kernel_rfl
   ·kernel_rfl
   ·kernel_rfl
   ·rfl
   ·exact fun _ _ _ h => h
   ·exact Or.inl ⟨by rfl, fun w _ => by go_simp⟩
   try simp only [Act.put, List.setIfInBounds_toArray, List.set_cons_zero, List.set_cons_succ]
   refine wpAnyE_takeY (i := 6) (oi := ?_) (v := .pointer (some ⟨(ad.add 44).block, (ad.add 44).off + 1, none⟩)) ?_ ?_ ?_ ?_ ?_ ?_ ?_ ?_
   rotate_left 1
   ·(try simp only [List.getElem?_toArray, List.getElem?_cons_succ, List.getElem?_cons_zero]); exact rfl
   ·kernel_rfl
   ·kernel_rfl
   ·kernel_rfl
   ·rfl
   ·exact fun _ _ _ h => h
   ·exact Or.inl ⟨by rfl, fun w _ => by go_simp⟩
   try simp only [Act.put, List.setIfInBounds_toArray, List.set_cons_zero, List.set_cons_succ]
   refine wpAnyE_take (i := 3) (oi := ?_) (v := .string (bs ck)) ?_ ?_ ?_ ?_ ?_ ?_ ?_ hSd ?_
   rotate_left 1
   ·(try simp only [List.getElem?_toArray, List.getElem?_cons_succ, List.getElem?_cons_zero]); exact rfl
   ·kernel_rfl
   ·kernel_rfl
   ·kernel_rfl
   ·kernel_rfl
   ·exact fun _ _ _ h => h
   ·refine Or.inl ⟨by rfl, fun w hSw => ?_⟩
    have q : w.cell? ⟨ad.block, ad.off + 2, none⟩ = some (.string (bs ck)) := ((H5.out.1.below hSw).at_ 0 _ _ rfl rfl).1.2.2.1
    clear hSw
    go_simp
   try simp only [Act.put, List.setIfInBounds_toArray, List.set_cons_zero, List.set_cons_succ]
   refine wpAnyE_take (i := 7) (oi := ?_) (v := .int .i64 f) ?_ ?_ ?_ ?_ ?_ ?_ ?_ hSd ?_
   rotate_left 1
   ·(try simp only [List.getElem?_toArray, List.getElem?_cons_succ, List.getElem?_cons_zero]); exact rfl
   ·kernel_rfl
   ·kernel_rfl
   ·kernel_rfl
   ·kernel_rfl
   ·exact fun _ _ _ h => h
   ·refine Or.inl ⟨by rfl, fun w hSw => ?_⟩
    have q : w.cell? ⟨ad.block, ad.off + 44 + 1, none⟩ = some (.int .i64 f) := ((H5.out.1.below hSw).at_ 11 _ _ rfl rfl).1.2.1
    clear hSw
    go_simp
   try simp only [Act.put, List.setIfInBounds_toArray, List.set_cons_zero, List.set_cons_succ]
   refine wpAnyE_take (i := 8) (oi := ?_) (v := .bool (f == 1)) ?_ ?_ ?_ ?_ ?_ ?_ ?_ hSd ?_
   rotate_left 1
   ·(try simp only [List.getElem?_toArray, List.getElem?_cons_succ, List.getElem?_cons_zero]); exact rfl
   ·kernel_rfl
   ·kernel_rfl
   ·kernel_rfl
   ·kernel_rfl
   ·exact fun _ _ _ h => h
   ·refine Or.inl ⟨by rfl, fun w hSw => ?_⟩
    clear hSw
    go_simp
   try simp only [Act.put, List.setIfInBounds_toArray, List.set_cons_zero, List.set_cons_succ]
   refine wpAnyE_take (i := 9) (oi := ?_) (v := .agg #[.string (bs ck), .slice none 0 0, .slice none 0 0, .slice none 0 0, .slice none 0 0, .slice none 0 0, .slice none 0 0, .slice none 0 0, .slice none 0 0, .slice none 0 0, .slice none 0 0, .bool false, .bool false, .bool false, .bool false, .bool (f == 1)]) ?_ ?_ ?_ ?_ ?_ ?_ ?_ hSd ?_
   rotate_left 1
   ·(try simp only [List.getElem?_toArray, List.getElem?_cons_succ, List.getElem?_cons_zero]); exact rfl
   ·kernel_rfl
   ·kernel_rfl
   ·kernel_rfl
   ·kernel_rfl
   ·exact fun _ _ _ h => h
   ·refine Or.inl ⟨by rfl, fun w hSw => ?_⟩
    clear hSw
    go_simp
   try simp only [Act.put, List.setIfInBounds_toArray, List.set_cons_zero, List.set_cons_succ]
   refine wpAnyE_ready (rs := [10]) (by kernel_rfl) (by simp) ?_
   refine AllReadyE.cons (o := ?_) ?_ (fun K hK => ?_) AllReadyE.nil
   rotate_left 1
   ·(try simp only [List.getElem?_toArray, List.getElem?_cons_succ, List.getElem?_cons_zero]); exact rfl
   refine step_eqA rfl (allI _ rfl _ _) ?_
   have hX := Blk.new Wd 45 #[.string ⟨#[]⟩, .slice none 0 0, .slice none 0 0, .slice none 0 0, .slice none 0 0, .slice none 0 0, .slice none 0 0, .slice none 0 0, .slice none 0 0, .slice none 0 0, .slice none 0 0, .bool false, .bool false, .bool false, .bool false, .bool false]
   have hSa := hSd.alloc hSd.size (.cells #[.string ⟨#[]⟩, .slice none 0 0, .slice none 0 0, .slice none 0 0, .slice none 0 0, .slice none 0 0, .slice none 0 0, .slice none 0 0, .slice none 0 0, .slice none 0 0, .slice none 0 0, .bool false, .bool false, .bool false, .bool false, .bool false] 45)
   refine hK.out _ _ hSa (fun _ => ?_)
   clear hK K
   try simp only [Act.put, List.setIfInBounds_toArray, List.set_cons_zero, List.set_cons_succ]
   obtain ⟨wa, hwa⟩ : ∃ wa, wa = Wd.alloc (.cells #[.string ⟨#[]⟩, .slice none 0 0, .slice none 0 0, .slice none 0 0, .slice none 0 0, .slice none 0 0, .slice none 0 0, .slice none 0 0, .slice none 0 0, .slice none 0 0, .slice none 0 0, .bool false, .bool false, .bool false, .bool false, .bool false] 45) := ⟨_, rfl⟩
   rw [← hwa] at hX hSa
   simp only [← hwa]
   clear hwa
   obtain ⟨xb, hxb⟩ : ∃ xb, xb = Wd.heap.size := ⟨_, rfl⟩
   have hxz : W5.heap.size ≤ xb := by rw [hxb]; exact hSd.size
   rw [← hxb] at hX
   simp only [← hxb]
   clear hxb
   refine wpAnyE_ready (rs := [11]) (by kernel_rfl) (by simp) ?_
   refine AllReadyE.late (o := ?_) ?_ rfl (fun K hK => ?_) AllReadyE.nil
   rotate_left 1
   ·(try simp only [List.getElem?_toArray, List.getElem?_cons_succ, List.getElem?_cons_zero]); exact rfl
   refine step_skipA rfl (stoI (x := .tmp 7) (y := .tmp 41) (s := bs ck) (b := (f == 1)) _ rfl _ (by rfl) (by rfl) _ hX) ?_
   refine hK.out _ _ ?_
   clear hK K
   try simp only [Act.put, List.setIfInBounds_toArray, List.set_cons_zero, List.set_cons_succ]
   refine wpAnyE_done (by kernel_rfl) ?_ _
   have hXn := sto16_blk hX (.string (bs ck)) (.slice none 0 0) (.slice none 0 0) (.slice none 0 0) (.slice none 0 0) (.slice none 0 0) (.slice none 0 0) (.slice none 0 0) (.slice none 0 0) (.slice none 0 0) (.slice none 0 0) (.bool false) (.bool false) (.bool false) (.bool false) (.bool (f == 1))
   have hBn := sto16_bel (r := xb) hSa hxz (.string (bs ck)) (.slice none 0 0) (.slice none 0 0) (.slice none 0 0) (.slice none 0 0) (.slice none 0 0) (.slice none 0 0) (.slice none 0 0) (.slice none 0 0) (.slice none 0 0) (.slice none 0 0) (.bool false) (.bool false) (.bool false) (.bool false) (.bool (f == 1))
   generalize sto16 wa xb (.string (bs ck)) (.slice none 0 0) (.slice none 0 0) (.slice none 0 0) (.slice none 0 0) (.slice none 0 0) (.slice none 0 0) (.slice none 0 0) (.slice none 0 0) (.slice none 0 0) (.slice none 0 0) (.bool false) (.bool false) (.bool false) (.bool false) (.bool (f == 1)) = w7 at hXn hBn ⊢
   clear hSd hSa hX
   go_upto_region 8 with fail
   have hP1 := fun (W : World) (hb : Below W5.heap.size W5 W) => ((H5.out.1.below hb).at_ 1 _ _ rfl rfl).2
   have HPl := hide (fun (W : World) (hb : Below W5.heap.size W5 W) => rplain16_any (w := W) (A := b1) (c := d1) (ls := l1) (hP1 W hb).txc.1 (by obtain ⟨_, _, e, hc, _⟩ := hP1 W hb; injection e with _ _ e3; rw [e3]; exact hc) (HD.out.2.2 l1 (by simp)))
   clear hP1
   refine wp_region_E (fun W => Below W5.heap.size W5 W) (fun i => [3, 4, 8, 12, 16, 20, 24, 28, 32, 33].contains i) (by kernel_rfl) ?_
   obtain ⟨Wd, hWd⟩ : ∃ Wd, Wd = w7.drew := ⟨_, rfl⟩
   have hSd : Below W5.heap.size W5 Wd := by rw [hWd]; exact hBn.drew
   have hXd : Blk Wd xb 45 #[.string (bs ck), .slice none 0 0, .slice none 0 0, .slice none 0 0, .slice none 0 0, .slice none 0 0, .slice none 0 0, .slice none 0 0, .slice none 0 0, .slice none 0 0, .slice none 0 0, .bool false, .bool false, .bool false, .bool false, .bool (f == 1)] := by rw [hWd]; exact hXn
   rw [← hWd]
   clear hWd hBn hXn
   refine wpAnyE_takeY (i := 0) (oi := ?_) (v := .slice (some ad) 13 c) ?_ ?_ ?_ ?_ ?_ ?_ ?_ ?_
   rotate_left 1
   ·(try simp only [List.getElem?_toArray, List.getElem?_cons_succ, List.getElem?_cons_zero]); exact rfl
   ·kernel_rfl
   ·kernel_rfl
   ·kernel_rfl
   ·rfl
   ·exact fun _ _ _ h => h
   ·exact Or.inl ⟨by rfl, fun w _ => by go_simp⟩
   try simp only [Act.put, List.setIfInBounds_toArray, List.set_cons_zero, List.set_cons_succ]
   refine wpAnyE_takeY (i := 1) (oi := ?_) (v := .pointer (some (ad.add 4))) ?_ ?_ ?_ ?_ ?_ ?_ ?_ ?_
   rotate_left 1
   ·(try simp only [List.getElem?_toArray, List.getElem?_cons_succ, List.getElem?_cons_zero]); exact rfl
   ·kernel_rfl
   ·kernel_rfl
   ·kernel_rfl
   ·rfl
   ·exact fun _ _ _ h => h
   ·exact Or.inl ⟨by rfl, fun w _ => by go_simp⟩
   try simp only [Act.put, List.setIfInBounds_toArray, List.set_cons_zero, List.set_cons_succ]
   refine wpAnyE_takeY (i := 2) (oi := ?_) (v := .pointer (some ⟨(ad.add 4).block, (ad.add 4).off + 3, none⟩)) ?_ ?_ ?_ ?_ ?_ ?_ ?_ ?_
   rotate_left 1
   ·(try simp only [List.getElem?_toArray, List.getElem?_cons_succ, List.getElem?_cons_zero]); exact rfl
   ·kernel_rfl
   ·kernel_rfl
   ·kernel_rfl
   ·rfl
   ·exact fun _ _ _ h => h
   ·exact Or.inl ⟨by rfl, fun w _ => by go_simp⟩
   try simp only [Act.put, List.setIfInBounds_toArray, List.set_cons_zero, List.set_cons_succ]
   refine wpAnyE_takeY (i := 5) (oi := ?_) (v := .slice (some ad) 13 c) ?_ ?_ ?_ ?_ ?_ ?_ ?_ ?_
   rotate_left 1
   ·(try simp only [List.getElem?_toArray, List.getElem?_cons_succ, List.getElem?_cons_zero]); exact rfl
   ·kernel_rfl
   ·kernel_rfl
   ·kernel_rfl
   ·rfl
   ·exact fun _ _ _ h => h
   ·exact Or.inl ⟨by rfl, fun w _ => by go_simp⟩
   try simp only [Act.put, List.setIfInBounds_toArray, List.set_cons_zero, List.set_cons_succ]
   refine wpAnyE_takeY (i := 6) (oi := ?_) (v := .pointer (some (ad.add 8))) ?_ ?_ ?_ ?_ ?_ ?_ ?_ ?_
   rotate_left 1
   ·(try simp only [List.getElem?_toArray, List.getElem?_cons_succ, List.getElem?_cons_zero]); exact rfl
   ·kernel_rfl
   ·kernel_rfl
   ·kernel_rfl
   ·rfl
   ·exact fun _ _ _ h => h
   ·exact Or.inl ⟨by rfl, fun w _ => by go_simp⟩
   try simp only [Act.put, List.setIfInBounds_toArray, List.set_cons_zero, List.set_cons_succ]
   refine wpAnyE_takeY (i := 7) (oi := ?_) (v := .pointer (some ⟨(ad.add 8).block, (ad.add 8).off + 3, none⟩)) ?_ ?_ ?_ ?_ ?_ ?_ ?_ ?_
   rotate_left 1
   ·(try simp only [List.getElem?_toArray, List.getElem?_cons_succ, List.getElem?_cons_zero]); exact rfl
   ·kernel_rfl
   ·kernel_rfl
   ·kernel_rfl
   ·rfl
   ·exact fun _ _ _ h => h
   ·exact Or.inl ⟨by rfl, fun w _ => by go_simp⟩
   try simp only [Act.put, List.setIfInBounds_toArray, List.set_cons_zero, List.set_cons_succ]
   refine wpAnyE_takeY (i := 9) (oi := ?_) (v := .slice (some ad) 13 c) ?_ ?_ ?_ ?_ ?_ ?_ ?_ ?_
   rotate_left 1
   ·(try simp only [List.getElem?_toArray, List.getElem?_cons_succ, List.getElem?_cons_zero]); exact rfl
   ·kernel_rfl
   ·kernel_rfl
   ·kernel_rfl
   ·rfl
   ·exact fun _ _ _ h => h
   ·exact Or.inl ⟨by rfl, fun w _ => by go_simp⟩
   try simp only [Act.put, List.setIfInBounds_toArray, List.set_cons_zero, List.set_cons_succ]
   refine wpAnyE_takeY (i := 10) (oi := ?_) (v := .pointer (some (ad.add 12))) ?_ ?_ ?_ ?_ ?_ ?_ ?_ ?_
   rotate_left 1
   ·(try simp only [List.getElem?_toArray, List.getElem?_cons_succ, List.getElem?_cons_zero]); exact rfl
   ·kernel_rfl
   ·kernel_rfl
   ·kernel_rfl
   ·rfl
   ·exact fun _ _ _ h => h
   ·exact Or.inl ⟨by rfl, fun w _ => by go_simp⟩
   try simp only [Act.put, List.setIfInBounds_toArray, List.set_cons_zero, List.set_cons_succ]
   refine wpAnyE_takeY (i := 11) (oi := ?_) (v := .pointer (some ⟨(ad.add 12).block, (ad.add 12).off + 3, none⟩)) ?_ ?_ ?_ ?_ ?_ ?_ ?_ ?_
   rotate_left 1
   ·(try simp only [List.getElem?_toArray, List.getElem?_cons_succ, List.getElem?_cons_zero]); exact rfl
   ·kernel_rfl
   ·kernel_rfl
   ·kernel_rfl
   ·rfl
   ·exact fun _ _ _ h => h
   ·exact Or.inl ⟨by rfl, fun w _ => by go_simp⟩
   try simp only [Act.put, List.setIfInBounds_toArray, List.set_cons_zero, List.set_cons_succ]
   refine wpAnyE_takeY (i := 13) (oi := ?_) (v := .slice (some ad) 13 c) ?_ ?_ ?_ ?_ ?_ ?_ ?_ ?_
   rotate_left 1
   ·(try simp only [List.getElem?_toArray, List.getElem?_cons_succ, List.getElem?_cons_zero]); exact rfl
   ·kernel_rfl
   ·kernel_rfl
   ·kernel_rfl
   ·rfl
   ·exact fun _ _ _ h => h
   ·exact Or.inl ⟨by rfl, fun w _ => by go_simp⟩
   try simp only [Act.put, List.setIfInBounds_toArray, List.set_cons_zero, List.set_cons_succ]
   refine wpAnyE_takeY (i := 14) (oi := ?_) (v := .pointer (some (ad.add 16))) ?_ ?_ ?_ ?_ ?_ ?_ ?_ ?_
   rotate_left 1
   ·(try simp only [List.getElem?_toArray, List.getElem?_cons_succ, List.getElem?_cons_zero]); exact rfl
   ·kernel_rfl
   ·kernel_rfl
   ·kernel_rfl
   ·rfl
   ·exact fun _ _ _ h => h
   ·exact Or.inl ⟨by rfl, fun w _ => by go_simp⟩
   try simp only [Act.put, List.setIfInBounds_toArray, List.set_cons_zero, List.set_cons_succ]
   refine wpAnyE_takeY (i := 15) (oi := ?_) (v := .pointer (some ⟨(ad.add 16).block, (ad.add 16).off + 3, none⟩)) ?_ ?_ ?_ ?_ ?_ ?_ ?_ ?_
   rotate_left 1
   ·(try simp only [List.getElem?_toArray, List.getElem?_cons_succ, List.getElem?_cons_zero]); exact rfl
   ·kernel_rfl
   ·kernel_rfl
   ·kernel_rfl
   ·rfl
   ·exact fun _ _ _ h => h
   ·exact Or.inl ⟨by rfl, fun w _ => by go_simp⟩
   try simp only [Act.put, List.setIfInBounds_toArray, List.set_cons_zero, List.set_cons_succ]
   refine wpAnyE_takeY (i := 17) (oi := ?_) (v := .slice (some ad) 13 c) ?_ ?_ ?_ ?_ ?_ ?_ ?_ ?_
   rotate_left 1
   ·(try simp only [List.getElem?_toArray, List.getElem?_cons_succ, List.getElem?_cons_zero]); exact rfl
   ·kernel_rfl
   ·kernel_rfl
   ·kernel_rfl
   ·rfl
   ·exact fun _ _ _ h => h
   ·exact Or.inl ⟨by rfl, fun w _ => by go_simp⟩
   try simp only [Act.put, List.setIfInBounds_toArray, List.set_cons_zero, List.set_cons_succ]
   refine wpAnyE_takeY (i := 18) (oi := ?_) (v := .pointer (some (ad.add 20))) ?_ ?_ ?_ ?_ ?_ ?_ ?_ ?_
   rotate_left 1
   ·(try simp only [List.getElem?_toArray, List.getElem?_cons_succ, List.getElem?_cons_zero]); exact rfl
   ·kernel_rfl
   ·kernel_rfl
   ·kernel_rfl
   ·rfl
   ·exact fun _ _ _ h => h
   ·exact Or.inl ⟨by rfl, fun w _ => by go_simp⟩
   try simp only [Act.put, List.setIfInBounds_toArray, List.set_cons_zero, List.set_cons_succ]
   refine wpAnyE_takeY (i := 19) (oi := ?_) (v := .pointer (some ⟨(ad.add 20).block, (ad.add 20).off + 3, none⟩)) ?_ ?_ ?_ ?_ ?_ ?_ ?_ ?_
   rotate_left 1
   ·(try simp only [List.getElem?_toArray, List.getElem?_cons_succ, List.getElem?_cons_zero]); exact rfl
   ·kernel_rfl
   ·kernel_rfl
   ·kernel_rfl
   ·rfl
   ·exact fun _ _ _ h => h
   ·exact Or.inl ⟨by rfl, fun w _ => by go_simp⟩
   try simp only [Act.put, List.setIfInBounds_toArray, List.set_cons_zero, List.set_cons_succ]
   refine wpAnyE_takeY (i := 21) (oi := ?_) (v := .slice (some ad) 13 c) ?_ ?_ ?_ ?_ ?_ ?_ ?_ ?_
   rotate_left 1
   ·(try simp only [List.getElem?_toArray, List.getElem?_cons_succ, List.getElem?_cons_zero]); exact rfl
   ·kernel_rfl
   ·kernel_rfl
   ·kernel_rfl
   ·rfl
   ·exact fun _ _ _ h => h
   ·exact Or.inl ⟨by rfl, fun w _ => by go_simp⟩
   try simp only [Act.put, List.setIfInBounds_toArray, List.set_cons_zero, List.set_cons_succ]
   refine wpAnyE_takeY (i := 22) (oi := ?_) (v := .pointer (some (ad.add 24))) ?_ ?_ ?_ ?_ ?_ ?_ ?_ ?_
   rotate_left 1
   ·(try simp only [List.getElem?_toArray, List.getElem?_cons_succ, List.getElem?_cons_zero]); exact rfl
   ·kernel_rfl
   ·kernel_rfl
   ·kernel_rfl
   ·rfl
   ·exact fun _ _ _ h => h
   ·exact Or.inl ⟨by rfl, fun w _ => by go_simp⟩
   try simp only [Act.put, List.setIfInBounds_toArray, List.set_cons_zero, List.set_cons_succ]
   refine wpAnyE_takeY (i := 23) (oi := ?_) (v := .pointer (some ⟨(ad.add 24).block, (ad.add 24).off + 3, none⟩)) ?_ ?_ ?_ ?_ ?_ ?_ ?_ ?_
   rotate_left 1
   ·(try simp only [List.getElem?_toArray, List.getElem?_cons_succ, List.getElem?_cons_zero]); exact rfl
   ·kernel_rfl
   ·kernel_rfl
   ·kernel_rfl
   ·rfl
   ·exact fun _ _ _ h => h
   ·exact Or.inl ⟨by rfl, fun w _ => by go_simp⟩
   try simp only [Act.put, List.setIfInBounds_toArray, List.set_cons_zero, List.set_cons_succ]
   refine wpAnyE_takeY (i := 25) (oi := ?_) (v := .slice (some ad) 13 c) ?_ ?_ ?_ ?_ ?_ ?_ ?_ ?_
   rotate_left 1
   ·(try simp only [List.getElem?_toArray, List.getElem?_cons_succ, List.getElem?_cons_zero]); exact rfl
   ·kernel_rfl
   ·kernel_rfl
   ·kernel_rfl
   ·rfl
   ·exact fun _ _ _ h => h
   ·exact Or.inl ⟨by rfl, fun w _ => by go_simp⟩
   try simp only [Act.put, List.setIfInBounds_toArray, List.set_cons_zero, List.set_cons_succ]
   refine wpAnyE_takeY (i := 26) (oi := ?_) (v := .pointer (some (ad.add 28))) ?_ ?_ ?_ ?_ ?_ ?_ ?_ ?_
   rotate_left 1
   ·(try simp only [List.getElem?_toArray, List.getElem?_cons_succ, List.getElem?_cons_zero]); exact rfl
   ·kernel_rfl
   ·kernel_rfl
   ·kernel_rfl
   ·rfl
   ·exact fun _ _ _ h => h
   ·exact Or.inl ⟨by rfl, fun w _ => by go_simp⟩
   try simp only [Act.put, List.setIfInBounds_toArray, List.set_cons_zero, List.set_cons_succ]
   refine wpAnyE_takeY (i := 27) (oi := ?_) (v := .pointer (some ⟨(ad.add 28).block, (ad.add 28).off + 3, none⟩)) ?_ ?_ ?_ ?_ ?_ ?_ ?_ ?_
   rotate_left 1
   ·(try simp only [List.getElem?_toArray, List.getElem?_cons_succ, List.getElem?_cons_zero]); exact rfl
   ·kernel_rfl
   ·kernel_rfl
   ·kernel_rfl
   ·rfl
   ·exact fun _ _ _ h => h
   ·exact Or.inl ⟨by rfl, fun w _ => by go_simp⟩
   try simp only [Act.put, List.setIfInBounds_toArray, List.set_cons_zero, List.set_cons_succ]
   refine wpAnyE_takeY (i := 29) (oi := ?_) (v := .slice (some ad) 13 c) ?_ ?_ ?_ ?_ ?_ ?_ ?_ ?_
   rotate_left 1
   ·(try simp only [List.getElem?_toArray, List.getElem?_cons_succ, List.getElem?_cons_zero]); exact rfl
   ·kernel_rfl
   ·kernel_rfl
   ·kernel_rfl
   ·rfl
   ·exact fun _ _ _ h => h
   ·exact Or.inl ⟨by rfl, fun w _ => by go_simp⟩
   try simp only [Act.put, List.setIfInBounds_toArray, List.set_cons_zero, List.set_cons_succ]
   refine wpAnyE_takeY (i := 30) (oi := ?_) (v := .pointer (some (ad.add 32))) ?_ ?_ ?_ ?_ ?_ ?_ ?_ ?_
   rotate_left 1
   ·(try simp only [List.getElem?_toArray, List.getElem?_cons_succ, List.getElem?_cons_zero]); exact rfl
   ·kernel_rfl
   ·kernel_rfl
   ·kernel_rfl
   ·rfl
   ·exact fun _ _ _ h => h
   ·exact Or.inl ⟨by rfl, fun w _ => by go_simp⟩
   try simp only [Act.put, List.setIfInBounds_toArray, List.set_cons_zero, List.set_cons_succ]
   refine wpAnyE_takeY (i := 31) (oi := ?_) (v := .pointer (some ⟨(ad.add 32).block, (ad.add 32).off + 3, none⟩)) ?_ ?_ ?_ ?_ ?_ ?_ ?_ ?_
   rotate_left 1
   ·(try simp only [List.getElem?_toArray, List.getElem?_cons_succ, List.getElem?_cons_zero]); exact rfl
   ·kernel_rfl
   ·kernel_rfl
   ·kernel_rfl
   ·rfl
   ·exact fun _ _ _ h => h
   ·exact Or.inl ⟨by rfl, fun w _ => by go_simp⟩
   try simp only [Act.put, List.setIfInBounds_toArray, List.set_cons_zero, List.set_cons_succ]
   refine wpAnyE_take (i := 3) (oi := ?_) (v := .slice b1 l1.length d1) ?_ ?_ ?_ ?_ ?_ ?_ ?_ hSd ?_
   rotate_left 1
   ·(try simp only [List.getElem?_toArray, List.getElem?_cons_succ, List.getElem?_cons_zero]); exact rfl
   ·kernel_rfl
   ·kernel_rfl
   ·kernel_rfl
   ·kernel_rfl
   ·exact fun _ _ _ h => h
   ·refine Or.inl ⟨by rfl, fun w hSw => ?_⟩
    have q : w.cell? ⟨ad.block, ad.off + 4 + 3, none⟩ = some (.slice b1 l1.length d1) := ((H5.out.1.below hSw).at_ 1 _ _ rfl rfl).1.2.2.2
    clear hSw
    go_simp
   try simp only [Act.put, List.setIfInBounds_toArray, List.set_cons_zero, List.set_cons_succ]
   refine wpAnyE_take (i := 8) (oi := ?_) (v := .slice b2 l2.length d2) ?_ ?_ ?_ ?_ ?_ ?_ ?_ hSd ?_
   rotate_left 1
   ·(try simp only [List.getElem?_toArray, List.getElem?_cons_succ, List.getElem?_cons_zero]); exact rfl
   ·kernel_rfl
   ·kernel_rfl
   ·kernel_rfl
   ·kernel_rfl
   ·exact fun _ _ _ h => h
   ·refine Or.inl ⟨by rfl, fun w hSw => ?_⟩
    have q : w.cell? ⟨ad.block, ad.off + 8 + 3, none⟩ = some (.slice b2 l2.length d2) := ((H5.out.1.below hSw).at_ 2 _ _ rfl rfl).1.2.2.2
    clear hSw
    go_simp
   try simp only [Act.put, List.setIfInBounds_toArray, List.set_cons_zero, List.set_cons_succ]
   refine wpAnyE_take (i := 12) (oi := ?_) (v := .slice b3 l3.length d3) ?_ ?_ ?_ ?_ ?_ ?_ ?_ hSd ?_
   rotate_left 1
   ·(try simp only [List.getElem?_toArray, List.getElem?_cons_succ, List.getElem?_cons_zero]); exact rfl
   ·kernel_rfl
   ·kernel_rfl
   ·kernel_rfl
   ·kernel_rfl
   ·exact fun _ _ _ h => h
   ·refine Or.inl ⟨by rfl, fun w hSw => ?_⟩
    have q : w.cell? ⟨ad.block, ad.off + 12 + 3, none⟩ = some (.slice b3 l3.length d3) := ((H5.out.1.below hSw).at_ 3 _ _ rfl rfl).1.2.2.2
    clear hSw
    go_simp
   try simp only [Act.put, List.setIfInBounds_toArray, List.set_cons_zero, List.set_cons_succ]
   refine wpAnyE_take (i := 16) (oi := ?_) (v := .slice b4 l4.length d4) ?_ ?_ ?_ ?_ ?_ ?_ ?_ hSd ?_
   rotate_left 1
   ·(try simp only [List.getElem?_toArray, List.getElem?_cons_succ, List.getElem?_cons_zero]); exact rfl
   ·kernel_rfl
   ·kernel_rfl
   ·kernel_rfl
   ·kernel_rfl
   ·exact fun _ _ _ h => h
   ·refine Or.inl ⟨by rfl, fun w hSw => ?_⟩
    have q : w.cell? ⟨ad.block, ad.off + 16 + 3, none⟩ = some (.slice b4 l4.length d4) := ((H5.out.1.below hSw).at_ 4 _ _ rfl rfl).1.2.2.2
    clear hSw
    go_simp
   try simp only [Act.put, List.setIfInBounds_toArray, List.set_cons_zero, List.set_cons_succ]
   refine wpAnyE_take (i := 20) (oi := ?_) (v := .slice b5 l5.length d5) ?_ ?_ ?_ ?_ ?_ ?_ ?_ hSd ?_
   rotate_left 1
   ·(try simp only [List.getElem?_toArray, List.getElem?_cons_succ, List.getElem?_cons_zero]); exact rfl
   ·kernel_rfl
   ·kernel_rfl
   ·kernel_rfl
   ·kernel_rfl
   ·exact fun _ _ _ h => h
   ·refine Or.inl ⟨by rfl, fun w hSw => ?_⟩
    have q : w.cell? ⟨ad.block, ad.off + 20 + 3, none⟩ = some (.slice b5 l5.length d5) := ((H5.out.1.below hSw).at_ 5 _ _ rfl rfl).1.2.2.2
    clear hSw
    go_simp
   try simp only [Act.put, List.setIfInBounds_toArray, List.set_cons_zero, List.set_cons_succ]
   refine wpAnyE_take (i := 24) (oi := ?_) (v := .slice b6 l6.length d6) ?_ ?_ ?_ ?_ ?_ ?_ ?_ hSd ?_
   rotate_left 1
   ·(try simp only [List.getElem?_toArray, List.getElem?_cons_succ, List.getElem?_cons_zero]); exact rfl
   ·kernel_rfl
   ·kernel_rfl
   ·kernel_rfl
   ·kernel_rfl
   ·exact fun _ _ _ h => h
   ·refine Or.inl ⟨by rfl, fun w hSw => ?_⟩
    have q : w.cell? ⟨ad.block, ad.off + 24 + 3, none⟩ = some (.slice b6 l6.length d6) := ((H5.out.1.below hSw).at_ 6 _ _ rfl rfl).1.2.2.2
    clear hSw
    go_simp
   try simp only [Act.put, List.setIfInBounds_toArray, List.set_cons_zero, List.set_cons_succ]
   refine wpAnyE_take (i := 28) (oi := ?_) (v := .slice b7 l7.length d7) ?_ ?_ ?_ ?_ ?_ ?_ ?_ hSd ?_
   rotate_left 1
   ·(try simp only [List.getElem?_toArray, List.getElem?_cons_succ, List.getElem?_cons_zero]); exact rfl
   ·kernel_rfl
   ·kernel_rfl
   ·kernel_rfl
   ·kernel_rfl
   ·exact fun _ _ _ h => h
   ·refine Or.inl ⟨by rfl, fun w hSw => ?_⟩
    have q : w.cell? ⟨ad.block, ad.off + 28 + 3, none⟩ = some (.slice b7 l7.length d7) := ((H5.out.1.below hSw).at_ 7 _ _ rfl rfl).1.2.2.2
    clear hSw
    go_simp
   try simp only [Act.put, List.setIfInBounds_toArray, List.set_cons_zero, List.set_cons_succ]
   refine wpAnyE_take (i := 32) (oi := ?_) (v := .slice b8 l8.length d8) ?_ ?_ ?_ ?_ ?_ ?_ ?_ hSd ?_
   rotate_left 1
   ·(try simp only [List.getElem?_toArray, List.getElem?_cons_succ, List.getElem?_cons_zero]); exact rfl
   ·kernel_rfl
   ·kernel_rfl
   ·kernel_rfl
   ·kernel_rfl
   ·exact fun _ _ _ h => h
   ·refine Or.inl ⟨by rfl, fun w hSw => ?_⟩
    have q : w.cell? ⟨ad.block, ad.off + 32 + 3, none⟩ = some (.slice b8 l8.length d8) := ((H5.out.1.below hSw).at_ 8 _ _ rfl rfl).1.2.2.2
    clear hSw
    go_simp
   try simp only [Act.put, List.setIfInBounds_toArray, List.set_cons_zero, List.set_cons_succ]
   refine wpAnyE_ready (rs := [4]) (by kernel_rfl) (by simp) ?_
   refine AllReadyE.cons (o := ?_) ?_ (fun K hK => ?_) AllReadyE.nil
   rotate_left 1
   ·(try simp only [List.getElem?_toArray, List.getElem?_cons_succ, List.getElem?_cons_zero]); exact rfl
   refine step_call1 (u := .slice b1 l1.length d1) (f := 56) rfl (callPl (x := .tmp 45) _ rfl _ (by rfl) _) (HPl.out _ hSd) ?_
   rintro e w8 ⟨rfl, rfl⟩
   refine ⟨_, rfl, ?_⟩
   refine hK.out _ _ hSd (fun _ => ?_)
   clear hK K
   try simp only [Act.put, List.setIfInBounds_toArray, List.set_cons_zero, List.set_cons_succ]
   refine wpAnyE_take (i := 33) (oi := ?_) (v := .agg #[.slice b1 (plainM l1).length d1, .slice b2 l2.length d2, .slice b3 l3.length d3, .slice b4 l4.length d4, .slice b5 l5.length d5, .slice b6 l6.length d6, .slice b7 l7.length d7, .slice b8 l8.length d8]) ?_ ?_ ?_ ?_ ?_ ?_ ?_ hSd ?_
   rotate_left 1
   ·(try simp only [List.getElem?_toArray, List.getElem?_cons_succ, List.getElem?_cons_zero]); exact rfl
   ·kernel_rfl
   ·kernel_rfl
   ·kernel_rfl
   ·kernel_rfl
   ·exact fun _ _ _ h => h
   ·refine Or.inl ⟨by rfl, fun w hSw => ?_⟩
    clear hSw
    go_simp
   try simp only [Act.put, List.setIfInBounds_toArray, List.set_cons_zero, List.set_cons_succ]
   refine wpAnyE_takeY (i := 34) (oi := ?_) (v := .pointer (some ⟨xb, 1, none⟩)) ?_ ?_ ?_ ?_ ?_ ?_ ?_ ?_
   rotate_left 1
   ·(try simp only [List.getElem?_toArray, List.getElem?_cons_succ, List.getElem?_cons_zero]); exact rfl
   ·kernel_rfl
   ·kernel_rfl
   ·kernel_rfl
   ·rfl
   ·exact fun _ _ _ h => h
   ·exact Or.inl ⟨by rfl, fun w _ => by go_simp⟩
   try simp only [Act.put, List.setIfInBounds_toArray, List.set_cons_zero, List.set_cons_succ]
   refine wpAnyE_ready (rs := [35]) (by kernel_rfl) (by simp) ?_
   refine AllReadyE.late (o := ?_) ?_ rfl (fun K hK => ?_) AllReadyE.nil
   rotate_left 1
   ·(try simp only [List.getElem?_toArray, List.getElem?_cons_succ, List.getElem?_cons_zero]); exact rfl
   refine step_skipA rfl (stoP8 (x := .tmp 76) (y := .tmp 75) _ rfl _ (by rfl) (by rfl) _ hXd) ?_
   refine hK.out _ _ ?_
   clear hK K
   try simp only [Act.put, List.setIfInBounds_toArray, List.set_cons_zero, List.set_cons_succ]
   refine wpAnyE_done (by kernel_rfl) ?_ _
   have hXn := sto8_blk hXd (.slice b1 (plainM l1).length d1) (.slice b2 l2.length d2) (.slice b3 l3.length d3) (.slice b4 l4.length d4) (.slice b5 l5.length d5) (.slice b6 l6.length d6) (.slice b7 l7.length d7) (.slice b8 l8.length d8)
   have hBn := sto8_bel (r := xb) hSd hxz (.slice b1 (plainM l1).length d1) (.slice b2 l2.length d2) (.slice b3 l3.length d3) (.slice b4 l4.length d4) (.slice b5 l5.length d5) (.slice b6 l6.length d6) (.slice b7 l7.length d7) (.slice b8 l8.length d8)
   generalize sto8 _ xb (.slice b1 (plainM l1).length d1) (.slice b2 l2.length d2) (.slice b3 l3.length d3) (.slice b4 l4.length d4) (.slice b5 l5.length d5) (.slice b6 l6.length d6) (.slice b7 l7.length d7) (.slice b8 l8.length d8) = w8 at hXn hBn ⊢
   clear hSd hXd HPl
   go_upto_region 9 with fail
   refine wp_region_E (fun W => Below W5.heap.size W5 W) (fun i => [3, 7, 8].contains i) (by kernel_rfl) ?_
   obtain ⟨Wd, hWd⟩ : ∃ Wd, Wd = w8.drew := ⟨_, rfl⟩
   have hSd : Below W5.heap.size W5 Wd := by rw [hWd]; exact hBn.drew
   have hXd : Blk Wd xb 45 #[.string (bs ck), .slice b1 (plainM l1).length d1, .slice b2 l2.length d2, .slice b3 l3.length d3, .slice b4 l4.length d4, .slice b5 l5.length d5, .slice b6 l6.length d6, .slice b7 l7.length d7, .slice b8 l8.length d8, .slice none 0 0, .slice none 0 0, .bool false, .bool false, .bool false, .bool false, .bool (f == 1)] := by rw [hWd]; exact hXn
   rw [← hWd]
   clear hWd hBn hXn
   refine wpAnyE_takeY (i := 0) (oi := ?_) (v := .slice (some ad) 13 c) ?_ ?_ ?_ ?_ ?_ ?_ ?_ ?_
   rotate_left 1
   ·(try simp only [List.getElem?_toArray, List.getElem?_cons_succ, List.getElem?_cons_zero]); exact rfl
   ·kernel_rfl
   ·kernel_rfl
   ·kernel_rfl
   ·rfl
   ·exact fun _ _ _ h => h
   ·exact Or.inl ⟨by rfl, fun w _ => by go_simp⟩
   try simp only [Act.put, List.setIfInBounds_toArray, List.set_cons_zero, List.set_cons_succ]
   refine wpAnyE_takeY (i := 1) (oi := ?_) (v := .pointer (some (ad.add 36))) ?_ ?_ ?_ ?_ ?_ ?_ ?_ ?_
   rotate_left 1
   ·(try simp only [List.getElem?_toArray, List.getElem?_cons_succ, List.getElem?_cons_zero]); exact rfl
   ·kernel_rfl
   ·kernel_rfl
   ·kernel_rfl
   ·rfl
   ·exact fun _ _ _ h => h
   ·exact Or.inl ⟨by rfl, fun w _ => by go_simp⟩
   try simp only [Act.put, List.setIfInBounds_toArray, List.set_cons_zero, List.set_cons_succ]
   refine wpAnyE_takeY (i := 2) (oi := ?_) (v := .pointer (some ⟨(ad.add 36).block, (ad.add 36).off + 3, none⟩)) ?_ ?_ ?_ ?_ ?_ ?_ ?_ ?_
   rotate_left 1
   ·(try simp only [List.getElem?_toArray, List.getElem?_cons_succ, List.getElem?_cons_zero]); exact rfl
   ·kernel_rfl
   ·kernel_rfl
   ·kernel_rfl
   ·rfl
   ·exact fun _ _ _ h => h
   ·exact Or.inl ⟨by rfl, fun w _ => by go_simp⟩
   try simp only [Act.put, List.setIfInBounds_toArray, List.set_cons_zero, List.set_cons_succ]
   refine wpAnyE_takeY (i := 4) (oi := ?_) (v := .slice (some ad) 13 c) ?_ ?_ ?_ ?_ ?_ ?_ ?_ ?_
   rotate_left 1
   ·(try simp only [List.getElem?_toArray, List.getElem?_cons_succ, List.getElem?_cons_zero]); exact rfl
   ·kernel_rfl
   ·kernel_rfl
   ·kernel_rfl
   ·rfl
   ·exact fun _ _ _ h => h
   ·exact Or.inl ⟨by rfl, fun w _ => by go_simp⟩
   try simp only [Act.put, List.setIfInBounds_toArray, List.set_cons_zero, List.set_cons_succ]
   refine wpAnyE_takeY (i := 5) (oi := ?_) (v := .pointer (some (ad.add 40))) ?_ ?_ ?_ ?_ ?_ ?_ ?_ ?_
   rotate_left 1
   ·(try simp only [List.getElem?_toArray, List.getElem?_cons_succ, List.getElem?_cons_zero]); exact rfl
   ·kernel_rfl
   ·kernel_rfl
   ·kernel_rfl
   ·rfl
   ·exact fun _ _ _ h => h
   ·exact Or.inl ⟨by rfl, fun w _ => by go_simp⟩
   try simp only [Act.put, List.setIfInBounds_toArray, List.set_cons_zero, List.set_cons_succ]
   refine wpAnyE_takeY (i := 6) (oi := ?_) (v := .pointer (some ⟨(ad.add 40).block, (ad.add 40).off + 3, none⟩)) ?_ ?_ ?_ ?_ ?_ ?_ ?_ ?_
   rotate_left 1
   ·(try simp only [List.getElem?_toArray, List.getElem?_cons_succ, List.getElem?_cons_zero]); exact rfl
   ·kernel_rfl
   ·kernel_rfl
   ·kernel_rfl
   ·rfl
   ·exact fun _ _ _ h => h
   ·exact Or.inl ⟨by rfl, fun w _ => by go_simp⟩
   try simp only [Act.put, List.setIfInBounds_toArray, List.set_cons_zero, List.set_cons_succ]
   refine wpAnyE_take (i := 3) (oi := ?_) (v := .slice b9 l9.length d9) ?_ ?_ ?_ ?_ ?_ ?_ ?_ hSd ?_
   rotate_left 1
   ·(try simp only [List.getElem?_toArray, List.getElem?_cons_succ, List.getElem?_cons_zero]); exact rfl
   ·kernel_rfl
   ·kernel_rfl
   ·kernel_rfl
   ·kernel_rfl
   ·exact fun _ _ _ h => h
   ·refine Or.inl ⟨by rfl, fun w hSw => ?_⟩
    have q : w.cell? ⟨ad.block, ad.off + 36 + 3, none⟩ = some (.slice b9 l9.length d9) := ((H5.out.1.below hSw).at_ 9 _ _ rfl rfl).1.2.2.2
    clear hSw
    go_simp
   try simp only [Act.put, List.setIfInBounds_toArray, List.set_cons_zero, List.set_cons_succ]
   refine wpAnyE_take (i := 7) (oi := ?_) (v := .slice b10 l10.length d10) ?_ ?_ ?_ ?_ ?_ ?_ ?_ hSd ?_
   rotate_left 1
   ·(try simp only [List.getElem?_toArray, List.getElem?_cons_succ, List.getElem?_cons_zero]); exact rfl
   ·kernel_rfl
   ·kernel_rfl
   ·kernel_rfl
   ·kernel_rfl
   ·exact fun _ _ _ h => h
   ·refine Or.inl ⟨by rfl, fun w hSw => ?_⟩
    have q : w.cell? ⟨ad.block, ad.off + 40 + 3, none⟩ = some (.slice b10 l10.length d10) := ((H5.out.1.below hSw).at_ 10 _ _ rfl rfl).1.2.2.2
    clear hSw
    go_simp
   try simp only [Act.put, List.setIfInBounds_toArray, List.set_cons_zero, List.set_cons_succ]
   refine wpAnyE_take (i := 8) (oi := ?_) (v := .agg #[.slice b9 l9.length d9, .slice b10 l10.length d10]) ?_ ?_ ?_ ?_ ?_ ?_ ?_ hSd ?_
   rotate_left 1
   ·(try simp only [List.getElem?_toArray, List.getElem?_cons_succ, List.getElem?_cons_zero]); exact rfl
   ·kernel_rfl
   ·kernel_rfl
   ·kernel_rfl
   ·kernel_rfl
   ·exact fun _ _ _ h => h
   ·refine Or.inl ⟨by rfl, fun w hSw => ?_⟩
    clear hSw
    go_simp
   try simp only [Act.put, List.setIfInBounds_toArray, List.set_cons_zero, List.set_cons_succ]
   refine wpAnyE_takeY (i := 9) (oi := ?_) (v := .pointer (some ⟨xb, 9, none⟩)) ?_ ?_ ?_ ?_ ?_ ?_ ?_ ?_
   rotate_left 1
   ·(try simp only [List.getElem?_toArray, List.getElem?_cons_succ, List.getElem?_cons_zero]); exact rfl
   ·kernel_rfl
   ·kernel_rfl
   ·kernel_rfl
   ·rfl
   ·exact fun _ _ _ h => h
   ·exact Or.inl ⟨by rfl, fun w _ => by go_simp⟩
   try simp only [Act.put, List.setIfInBounds_toArray, List.set_cons_zero, List.set_cons_succ]
   refine wpAnyE_ready (rs := [10]) (by kernel_rfl) (by simp) ?_
   refine AllReadyE.late (o := ?_) ?_ rfl (fun K hK => ?_) AllReadyE.nil
   rotate_left 1
   ·(try simp only [List.getElem?_toArray, List.getElem?_cons_succ, List.getElem?_cons_zero]); exact rfl
   refine step_skipA rfl (stoL2 (x := .tmp 86) (y := .tmp 85) _ rfl _ (by rfl) (by rfl) _ hXd (by simp)) ?_
   refine hK.out _ _ ?_
   clear hK K
   try simp only [Act.put, List.setIfInBounds_toArray, List.set_cons_zero, List.set_cons_succ]
   refine wpAnyE_done (by kernel_rfl) ?_ _
   have hXn : Blk ((Wd.setCell ⟨xb, 9, none⟩ (.slice b9 l9.length d9)).setCell ⟨xb, 10, none⟩ (.slice b10 l10.length d10)) xb 45 #[.string (bs ck), .slice b1 (plainM l1).length d1, .slice b2 l2.length d2, .slice b3 l3.length d3, .slice b4 l4.length d4, .slice b5 l5.length d5, .slice b6 l6.length d6, .slice b7 l7.length d7, .slice b8 l8.length d8, .slice b9 l9.length d9, .slice b10 l10.length d10, .bool false, .bool false, .bool false, .bool false, .bool (f == 1)] := by simpa using (hXd.set_ 9 (.slice b9 l9.length d9)).set_ 10 (.slice b10 l10.length d10)
   have hBn := (hSd.setCell (p := ⟨xb, 9, none⟩) hxz (.slice b9 l9.length d9)).setCell (p := ⟨xb, 10, none⟩) hxz (.slice b10 l10.length d10)
   generalize ((Wd.setCell ⟨xb, 9, none⟩ (.slice b9 l9.length d9)).setCell ⟨xb, 10, none⟩ (.slice b10 l10.length d10)) = w9 at hXn hBn ⊢
   clear hSd hXd
   go_upto_region 10 with fail
   have q := ((H5.out.1.below hBn).at_ 1 _ _ rfl rfl).1.2.2.2
   have q : w9.cell? ⟨ad.block, ad.off + 4 + 3, none⟩ = some (.slice b1 l1.length d1) := q
   have x0 := hXn.cell 11
   have x1 := hXn.frozen 11
   simp at x0
   have HH := hide (show Calls Tryz.prog 57 #[.slice b1 l1.length d1, .string ⟨#[101, 120, 116, 45, 105, 110, 102, 111, 45, 99]⟩] w9 (fun e w' => e = .returned (.bool (decide (mark0 ∈ l1))) ∧ w' = w9) from rhas_any ((H5.out.1.below hBn).at_ 1 _ _ rfl rfl).2.txc.1 (by have := HD.out.2.2 l1 (by simp); omega) mark0)
   have HXB := hide (And.intro hXn hBn)
   clear hXn hBn
   go_upto_region 11 with (first
    | (go_at_call 57; refine HH.out.mono ?_; rintro e wq ⟨rfl, hwq⟩; rw [hwq]; clear hwq wq)
    | fail)
   have hXn : Blk (w9.setCell ⟨xb, 11, none⟩ (.bool (decide (mark0 ∈ l1)))) xb 45 #[.string (bs ck), .slice b1 (plainM l1).length d1, .slice b2 l2.length d2, .slice b3 l3.length d3, .slice b4 l4.length d4, .slice b5 l5.length d5, .slice b6 l6.length d6, .slice b7 l7.length d7, .slice b8 l8.length d8, .slice b9 l9.length d9, .slice b10 l10.length d10, .bool (decide (mark0 ∈ l1)), .bool false, .bool false, .bool false, .bool (f == 1)] := by have := HXB.out.1.set_ 11 (.bool (decide (mark0 ∈ l1))); simpa using this
   have hBn := HXB.out.2.setCell (p := ⟨xb, 11, none⟩) hxz (.bool (decide (mark0 ∈ l1)))
   clear q x0 x1 HH HXB
   generalize w9.setCell ⟨xb, 11, none⟩ (.bool (decide (mark0 ∈ l1))) = w10 at hXn hBn ⊢
   have q := ((H5.out.1.below hBn).at_ 1 _ _ rfl rfl).1.2.2.2
   have q : w10.cell? ⟨ad.block, ad.off + 4 + 3, none⟩ = some (.slice b1 l1.length d1) := q
   have x0 := hXn.cell 12
   have x1 := hXn.frozen 12
   simp at x0
   have HH := hide (show Calls Tryz.prog 57 #[.slice b1 l1.length d1, .string ⟨#[101, 120, 116, 45, 105, 110, 102, 111, 45, 115]⟩] w10 (fun e w' => e = .returned (.bool (decide (mark1 ∈ l1))) ∧ w' = w10) from rhas_any ((H5.out.1.below hBn).at_ 1 _ _ rfl rfl).2.txc.1 (by have := HD.out.2.2 l1 (by simp); omega) mark1)
   have HXB := hide (And.intro hXn hBn)
   clear hXn hBn
   go_upto_region 12 with (first
    | (go_at_call 57; refine HH.out.mono ?_; rintro e wq ⟨rfl, hwq⟩; rw [hwq]; clear hwq wq)
    | fail)
   have hXn : Blk (w10.setCell ⟨xb, 12, none⟩ (.bool (decide (mark1 ∈ l1)))) xb 45 #[.string (bs ck), .slice b1 (plainM l1).length d1, .slice b2 l2.length d2, .slice b3 l3.length d3, .slice b4 l4.length d4, .slice b5 l5.length d5, .slice b6 l6.length d6, .slice b7 l7.length d7, .slice b8 l8.length d8, .slice b9 l9.length d9, .slice b10 l10.length d10, .bool (decide (mark0 ∈ l1)), .bool (decide (mark1 ∈ l1)), .bool false, .bool false, .bool (f == 1)] := by have := HXB.out.1.set_ 12 (.bool (decide (mark1 ∈ l1))); simpa using this
   have hBn := HXB.out.2.setCell (p := ⟨xb, 12, none⟩) hxz (.bool (decide (mark1 ∈ l1)))
   clear q x0 x1 HH HXB
   generalize w10.setCell ⟨xb, 12, none⟩ (.bool (decide (mark1 ∈ l1))) = w11 at hXn hBn ⊢
   have q := ((H5.out.1.below hBn).at_ 1 _ _ rfl rfl).1.2.2.2
   have q : w11.cell? ⟨ad.block, ad.off + 4 + 3, none⟩ = some (.slice b1 l1.length d1) := q
   have x0 := hXn.cell 13
   have x1 := hXn.frozen 13
   simp at x0
   have HH := hide (show Calls Tryz.prog 57 #[.slice b1 l1.length d1, .string ⟨#[107, 101, 120, 45, 115, 116, 114, 105, 99, 116, 45, 99, 45, 118, 48, 48]⟩] w11 (fun e w' => e = .returned (.bool (decide (mark2 ∈ l1))) ∧ w' = w11) from rhas_any ((H5.out.1.below hBn).at_ 1 _ _ rfl rfl).2.txc.1 (by have := HD.out.2.2 l1 (by simp); omega) mark2)
   have HXB := hide (And.intro hXn hBn)
   clear hXn hBn
   go_upto_region 13 with (first
    | (go_at_call 57; refine HH.out.mono ?_; rintro e wq ⟨rfl, hwq⟩; rw [hwq]; clear hwq wq)
    | fail)
   have hXn : Blk (w11.setCell ⟨xb, 13, none⟩ (.bool (decide (mark2 ∈ l1)))) xb 45 #[.string (bs ck), .slice b1 (plainM l1).length d1, .slice b2 l2.length d2, .slice b3 l3.length d3, .slice b4 l4.length d4, .slice b5 l5.length d5, .slice b6 l6.length d6, .slice b7 l7.length d7, .slice b8 l8.length d8, .slice b9 l9.length d9, .slice b10 l10.length d10, .bool (decide (mark0 ∈ l1)), .bool (decide (mark1 ∈ l1)), .bool (decide (mark2 ∈ l1)), .bool false, .bool (f == 1)] := by have := HXB.out.1.set_ 13 (.bool (decide (mark2 ∈ l1))); simpa using this
   have hBn := HXB.out.2.setCell (p := ⟨xb, 13, none⟩) hxz (.bool (decide (mark2 ∈ l1)))
   clear q x0 x1 HH HXB
   generalize w11.setCell ⟨xb, 13, none⟩ (.bool (decide (mark2 ∈ l1))) = w12 at hXn hBn ⊢
   have q := ((H5.out.1.below hBn).at_ 1 _ _ rfl rfl).1.2.2.2
   have q : w12.cell? ⟨ad.block, ad.off + 4 + 3, none⟩ = some (.slice b1 l1.length d1) := q
   have x0 := hXn.cell 14
   have x1 := hXn.frozen 14
   simp at x0
   have HH := hide (show Calls Tryz.prog 57 #[.slice b1 l1.length d1, .string ⟨#[107, 101, 120, 45, 115, 116, 114, 105, 99, 116, 45, 115, 45, 118, 48, 48]⟩] w12 (fun e w' => e = .returned (.bool (decide (mark3 ∈ l1))) ∧ w' = w12) from rhas_any ((H5.out.1.below hBn).at_ 1 _ _ rfl rfl).2.txc.1 (by have := HD.out.2.2 l1 (by simp); omega) mark3)
   have HXB := hide (And.intro hXn hBn)
   clear hXn hBn
   go_upto_region 14 with (first
    | (go_at_call 57; refine HH.out.mono ?_; rintro e wq ⟨rfl, hwq⟩; rw [hwq]; clear hwq wq)
    | fail)
   have hXn : Blk (w12.setCell ⟨xb, 14, none⟩ (.bool (decide (mark3 ∈ l1)))) xb 45 #[.string (bs ck), .slice b1 (plainM l1).length d1, .slice b2 l2.length d2, .slice b3 l3.length d3, .slice b4 l4.length d4, .slice b5 l5.length d5, .slice b6 l6.length d6, .slice b7 l7.length d7, .slice b8 l8.length d8, .slice b9 l9.length d9, .slice b10 l10.length d10, .bool (decide (mark0 ∈ l1)), .bool (decide (mark1 ∈ l1)), .bool (decide (mark2 ∈ l1)), .bool (decide (mark3 ∈ l1)), .bool (f == 1)] := by have := HXB.out.1.set_ 14 (.bool (decide (mark3 ∈ l1))); simpa using this
   have hBn := HXB.out.2.setCell (p := ⟨xb, 14, none⟩) hxz (.bool (decide (mark3 ∈ l1)))
   clear q x0 x1 HH HXB
   generalize w12.setCell ⟨xb, 14, none⟩ (.bool (decide (mark3 ∈ l1))) = w13 at hXn hBn ⊢
   have hN13 := parI_all (H5.out.1.below hBn) HD.out.2.2
   have hC13 : AllC w13 [.slice b1 (plainM l1).length d1, .slice b2 l2.length d2, .slice b3 l3.length d3, .slice b4 l4.length d4, .slice b5 l5.length d5, .slice b6 l6.length d6, .slice b7 l7.length d7, .slice b8 l8.length d8, .slice b9 l9.length d9, .slice b10 l10.length d10] [plainM l1, l2, l3, l4, l5, l6, l7, l8, l9, l10] := allC_of rfl hN13
   have hszf := rp_sz (p := pl.data.toList) Hpl.out HD.out.1 HD.out.2.1
   have HRB := hide (rbuild16_any (w := w13) (bs ck) (decide (mark0 ∈ l1)) (decide (mark1 ∈ l1)) (decide (mark2 ∈ l1)) (decide (mark3 ∈ l1)) (f == 1) (l := kexMsg ⟨ck, plainM l1, [l2, l3, l4, l5, l6, l7, l8, l9, l10], decide (mark0 ∈ l1), decide (mark1 ∈ l1), decide (mark2 ∈ l1), decide (mark3 ∈ l1), (f == 1)⟩) (hC13.2 0 _ _ rfl rfl).1.1 (by have := (hC13.2 0 _ (plainM l1) rfl rfl).2; omega) hszf (by show (13 : Nat) ≤ 1000; decide) (hide (fun W2 hb2 => rmsg16_any ck (decide (mark0 ∈ l1)) (decide (mark1 ∈ l1)) (decide (mark2 ∈ l1)) (decide (mark3 ∈ l1)) (f == 1) (hC13.below hb2))))
   have HXB := hide (And.intro hXn (And.intro hBn hN13))
   have HW0 := hide (show w.heap.size + 1 < W0.heap.size from HX.out.2.2.lt)
   have x0 := HXB.out.1.cell 0
   have x1 := HXB.out.1.cell 1
   have x2 := HXB.out.1.cell 2
   have x3 := HXB.out.1.cell 3
   have x4 := HXB.out.1.cell 4
   have x5 := HXB.out.1.cell 5
   have x6 := HXB.out.1.cell 6
   have x7 := HXB.out.1.cell 7
   have x8 := HXB.out.1.cell 8
   have x9 := HXB.out.1.cell 9
   have x10 := HXB.out.1.cell 10
   have x11 := HXB.out.1.cell 11
   have x12 := HXB.out.1.cell 12
   have x13 := HXB.out.1.cell 13
   have x14 := HXB.out.1.cell 14
   have x15 := HXB.out.1.cell 15
   simp only [List.getElem?_toArray, List.getElem?_cons_zero, List.getElem?_cons_succ] at x0 x1 x2 x3 x4 x5 x6 x7 x8 x9 x10 x11 x12 x13 x14 x15
   clear hXn hBn hC13 hszf hN13
   go_wp2_with fail
   refine HRB.out.mono ?_
   rintro e w14 ⟨hb14, hr14⟩
   clear HRB
   rcases hr14 with ⟨hmk, s2, hs2, rfl⟩ | ⟨ps2, k2, hk2, hk0, rfl⟩
   ·have hYES := rp_yes (p := pl.data.toList) Hpl.out HD.out.1 HD.out.2.1 hs2
    clear hs2 hmk
    have HY := hide hYES
    clear hYES
    have hbx := (Below.refl w14.heap.size w14).alloc (Nat.le_refl _) (.cells #[.int .i64 0, .string ⟨#[]⟩] 42)
    have hN5 := Blk.new w14 42 #[.int .i64 0, .string ⟨#[]⟩]
    have hbx13 := hb14.trans (hbx.mono hb14.size)
    have hb5x := HXB.out.2.1.trans (hbx13.mono HXB.out.2.1.size)
    go_upto_region 15 with fail
    generalize w14.alloc (.cells #[.int .i64 0, .string ⟨#[]⟩] 42) = w15 at hbx hN5 hb5x hbx13 ⊢
    generalize w14.heap.size = b15 at hN5 ⊢
    have e0c := hN5.cell 0
    simp at e0c
    have hXz := HXB.out.1.below hbx13 HXB.out.1.lt
    have hRz := H5.out.2.2.1.below hb5x H5.out.2.2.1.lt
    have hEz := H5.out.2.2.2.below hb5x H5.out.2.2.2.lt
    have hbz := H5.out.2.1.trans (hb5x.mono H5.out.2.1.size)
    clear x0 x1 x2 x3 x4 x5 x6 x7 x8 x9 x10 x11 x12 x13 x14 x15 hbx hb5x hb14
    rcases HY.out with ⟨he, hm, hu0⟩ | ⟨he, hor⟩
    ·exfalso
     have h9 := HOK.out.2.1 ck l1 l2 l3 l4 l5 l6 l7 l8 l9 l10 f (by have := HD.out.1; rwa [hu0] at this)
     rw [hm] at h9
     cases h9
    ·have hss : ((bs s2).toList == pl.toList) = false := bytes_ne (fun e => he (by rw [← e]; rfl))
     have hss2 : ((bs s2).toList != pl.toList) = true := by simp only [bne, hss]; rfl
     have HE := hide (show ParE (decS pl.data.toList) [kexB] 3 from .inr (.inr ⟨ck, l1, [l2, l3, l4, l5, l6, l7, l8, l9, l10], f, u, HD.out.1, rfl, HD.out.2.1, hor, rfl, rfl⟩))
     have HK0 := hide (show (3 : Nat) ≠ 0 by decide)
     have HAT := hide (show bs (atL [kexB]) = (⟨#[107, 101, 120, 105, 110, 105, 116, 32]⟩ : ByteArray) from by kernel_rfl)
     clear he hor HY hXz
     have r0 := hRz.cell 0
     have t0 := hRz.frozen 0
     have r1 := hRz.cell 1
     have t1 := hRz.frozen 1
     have r2 := hRz.cell 2
     have t2 := hRz.frozen 2
     have r3 := hRz.cell 3
     have t3 := hRz.frozen 3
     have r4 := hRz.cell 4
     have t4 := hRz.frozen 4
     have r5 := hRz.cell 5
     have t5 := hRz.frozen 5
     have r6 := hRz.cell 6
     have t6 := hRz.frozen 6
     have r7 := hRz.cell 7
     have t7 := hRz.frozen 7
     have r8 := hRz.cell 8
     have t8 := hRz.frozen 8
     have r9 := hRz.cell 9
     have t9 := hRz.frozen 9
     have r10 := hRz.cell 10
     have t10 := hRz.frozen 10
     have r11 := hRz.cell 11
     have t11 := hRz.frozen 11
     have r12 := hRz.cell 12
     have t12 := hRz.frozen 12
     have r13 := hRz.cell 13
     have t13 := hRz.frozen 13
     have r14 := hRz.cell 14
     have t14 := hRz.frozen 14
     have r15 := hRz.cell 15
     have t15 := hRz.frozen 15
     simp at r0 r1 r2 r3 r4 r5 r6 r7 r8 r9 r10 r11 r12 r13 r14 r15
     have y0 := hEz.cell 0
     have y1 := hEz.cell 1
     have s0 := hEz.frozen 0
     have s1 := hEz.frozen 1
     simp at y0 y1
     go_wp2_with fail
     obtain ⟨wF, hwF⟩ : ∃ wF, wF = (((sto16 w15 w.heap.size (.string ⟨#[]⟩) (.slice none 0 0) (.slice none 0 0) (.slice none 0 0) (.slice none 0 0) (.slice none 0 0) (.slice none 0 0) (.slice none 0 0) (.slice none 0 0) (.slice none 0 0) (.slice none 0 0) (.bool false) (.bool false) (.bool false) (.bool false) (.bool false)).setCell ⟨w.heap.size + 1, 0, none⟩ (.int .i64 (3 : Nat))).setCell ⟨w.heap.size + 1, 1, none⟩ (.string (⟨#[107, 101, 120, 105, 110, 105, 116, 32]⟩))) := ⟨_, rfl⟩
     obtain ⟨hF, hG, hbF⟩ := rerr_fin (k := 3) (s := ⟨#[107, 101, 120, 105, 110, 105, 116, 32]⟩) hRz hEz hbz (Nat.le_refl _)
     have hch : ((((((((((((((((((w15.setCell ⟨w.heap.size, 0, none⟩ (.string ⟨#[]⟩)).setCell ⟨w.heap.size, 1, none⟩ (.slice none 0 0)).setCell ⟨w.heap.size, 2, none⟩ (.slice none 0 0)).setCell ⟨w.heap.size, 3, none⟩ (.slice none 0 0)).setCell ⟨w.heap.size, 4, none⟩ (.slice none 0 0)).setCell ⟨w.heap.size, 5, none⟩ (.slice none 0 0)).setCell ⟨w.heap.size, 6, none⟩ (.slice none 0 0)).setCell ⟨w.heap.size, 7, none⟩ (.slice none 0 0)).setCell ⟨w.heap.size, 8, none⟩ (.slice none 0 0)).setCell ⟨w.heap.size, 9, none⟩ (.slice none 0 0)).setCell ⟨w.heap.size, 10, none⟩ (.slice none 0 0)).setCell ⟨w.heap.size, 11, none⟩ (.bool false)).setCell ⟨w.heap.size, 12, none⟩ (.bool false)).setCell ⟨w.heap.size, 13, none⟩ (.bool false)).setCell ⟨w.heap.size, 14, none⟩ (.bool false)).setCell ⟨w.heap.size, 15, none⟩ (.bool false)).setCell ⟨w.heap.size + 1, 0, none⟩ (.int .i64 3)).setCell ⟨w.heap.size + 1, 1, none⟩ (.string (⟨#[107, 101, 120, 105, 110, 105, 116, 32]⟩))) = wF := hwF.symm
     rw [← hwF] at hF hG hbF
     rw [hch]
     clear hwF hch r0 t0 r1 t1 r2 t2 r3 t3 r4 t4 r5 t5 r6 t6 r7 t7 r8 t8 r9 t9 r10 t10 r11 t11 r12 t12 r13 t13 r14 t14 r15 t15 y0 y1 s0 s1
     have q0 := hF.cell 0
     have q1 := hF.cell 1
     have q2 := hF.cell 2
     have q3 := hF.cell 3
     have q4 := hF.cell 4
     have q5 := hF.cell 5
     have q6 := hF.cell 6
     have q7 := hF.cell 7
     have q8 := hF.cell 8
     have q9 := hF.cell 9
     have q10 := hF.cell 10
     have q11 := hF.cell 11
     have q12 := hF.cell 12
     have q13 := hF.cell 13
     have q14 := hF.cell 14
     have q15 := hF.cell 15
     have q16 := hG.cell 0
     have q17 := hG.cell 1
     simp at q0 q1 q2 q3 q4 q5 q6 q7 q8 q9 q10 q11 q12 q13 q14 q15 q16 q17
     have HF := hide (show RParP pl.data.toList w (.returned (.tuple #[.agg #[.string ⟨#[]⟩, .slice none 0 0, .slice none 0 0, .slice none 0 0, .slice none 0 0, .slice none 0 0, .slice none 0 0, .slice none 0 0, .slice none 0 0, .slice none 0 0, .slice none 0 0, .bool false, .bool false, .bool false, .bool false, .bool false], .agg #[.int .i64 3, .string (⟨#[107, 101, 120, 105, 110, 105, 116, 32]⟩)]])) wF from ⟨hbF, .inr ⟨[kexB], 3, HE.out, HK0.out, by first | (rw [HAT.out]; done) | (rw [HAT.out]; rfl)⟩⟩)
     clear hF hG hbF hRz hEz hbz
     exact bodyPost_ret (v := .tuple #[.agg #[.string ⟨#[]⟩, .slice none 0 0, .slice none 0 0, .slice none 0 0, .slice none 0 0, .slice none 0 0, .slice none 0 0, .slice none 0 0, .slice none 0 0, .slice none 0 0, .slice none 0 0, .bool false, .bool false, .bool false, .bool false, .bool false], .agg #[.int .i64 3, .string (⟨#[107, 101, 120, 105, 110, 105, 116, 32]⟩)]]) (by simp [results, Tryz.results20, go_sem, q0, q1, q2, q3, q4, q5, q6, q7, q8, q9, q10, q11, q12, q13, q14, q15, q16, q17]) rfl HF.out
   ·exfalso
    obtain ⟨s9, h9⟩ := HOK.out.2.2 ck l1 l2 l3 l4 l5 l6 l7 l8 l9 l10 f u HD.out.1
    unfold kexErr at hk2
    rw [plainM_marked, if_neg (by decide), h9] at hk2
    cases hk2
  ·obtain ⟨l9, h9⟩ := HOK.out.1
   rw [hd] at h9
   injection h9 with h9 _
   exact absurd h9 hn
 ·obtain ⟨l9, h9⟩ := HOK.out.1
  rw [h9] at hk
  cases hk
set_option maxHeartbeats 40000000 in
set_option maxRecDepth 100000 in
theorem rparse16_n2 {w : World} (pl : ByteArray) (hpl : pl.size ≤ 2000) (hok : (∃ l, decS pl.data.toList = .ok 20 l) ∧ (∀ ck l1 l2 l3 l4 l5 l6 l7 l8 l9 l10 f, decS pl.data.toList = .ok 20 (kexFs ck [l1, l2, l3, l4, l5, l6, l7, l8, l9, l10] f 0) → markedL (splitM l1).rest = true) ∧ ∀ ck l1 l2 l3 l4 l5 l6 l7 l8 l9 l10 f u, decS pl.data.toList = .ok 20 (kexFs ck [l1, l2, l3, l4, l5, l6, l7, l8, l9, l10] f u) → ∀ s, encS 20 (kexMsg ⟨ck, plainM l1, [l2, l3, l4, l5, l6, l7, l8, l9, l10], decide (mark0 ∈ l1), decide (mark1 ∈ l1), decide (mark2 ∈ l1), decide (mark3 ∈ l1), (f == 1)⟩) ≠ .ok s) : Calls Tryz.prog 20 #[.string pl] w (RParP pl.data.toList w) := by
 obtain ⟨W0, hW0⟩ : ∃ W0, W0 = (w.alloc (.cells #[.string ⟨#[]⟩, .slice none 0 0, .slice none 0 0, .slice none 0 0, .slice none 0 0, .slice none 0 0, .slice none 0 0, .slice none 0 0, .slice none 0 0, .slice none 0 0, .slice none 0 0, .bool false, .bool false, .bool false, .bool false, .bool false] 45)).alloc (.cells #[.int .i64 0, .string ⟨#[]⟩] 42) := ⟨_, rfl⟩
 have hb0 : Below w.heap.size w W0 := by rw [hW0]; (repeat (first | exact Below.refl _ _ | refine below_drewN ?_ _ | refine Below.drew ?_ | refine Below.alloc ?_ (by first | omega | (simp; done) | (simp; omega)) _ | refine Below.setCell ?_ (by first | omega | (simp; done) | (simp; omega)) _ | refine bel_alloc ?_ _ | refine bel_trans ?_ (by assumption) | refine Below.trans ?_ (Below.mono (by assumption) (by first | omega | (simp; done) | (simp; omega)))))
 have hR0 : Blk W0 w.heap.size 45 #[.string ⟨#[]⟩, .slice none 0 0, .slice none 0 0, .slice none 0 0, .slice none 0 0, .slice none 0 0, .slice none 0 0, .slice none 0 0, .slice none 0 0, .slice none 0 0, .slice none 0 0, .bool false, .bool false, .bool false, .bool false, .bool false] := by rw [hW0]; exact (Blk.new w _ _).alloc _
 have hE0 : Blk W0 (w.heap.size + 1) 42 #[.int .i64 0, .string ⟨#[]⟩] := by rw [hW0]; exact blk_new2 w _ _ _
 have HD := hide (rdecode_anyN (w := W0) pl (by omega))
 have HX := hide (And.intro hb0 (And.intro hR0 hE0))
 have HOK := hide hok
 have Hpl := hide hpl
 clear hb0 hR0 hE0 hok hpl
 go_enter Tryz.func20, Tryz.ntmps20
 go_upto_region 1 with fail
 rw [← hW0]
 clear hW0
 go_wp2_with fail
 refine HD.out.mono ?_
 rintro e w1 ⟨hb1, hr1⟩
 have hb01 := HX.out.1.trans (hb1.mono HX.out.1.size)
 have hR1 := HX.out.2.1.below hb1 HX.out.2.1.lt
 have hE1 := HX.out.2.2.below hb1 HX.out.2.2.lt
 have HS := hide (And.intro hb01 (And.intro hR1 hE1))
 clear HD hb1 hb01 hR1 hE1
 rcases hr1 with ⟨num, l, A, c, hd, rfl, hF⟩ | ⟨ps, k, hk, hk0, rfl⟩
 ·obtain ⟨W5, hW5⟩ : ∃ W5, W5 = (w1.alloc (.cells #[.int .i64 (num : Nat), .slice A l.length c] 86)).alloc (.cells #[.int .i64 0, .string ⟨#[]⟩] 42) := ⟨_, rfl⟩
  have hb15 : Below w1.heap.size w1 W5 := by rw [hW5]; (repeat (first | exact Below.refl _ _ | refine below_drewN ?_ _ | refine Below.drew ?_ | refine Below.alloc ?_ (by first | omega | (simp; done) | (simp; omega)) _ | refine Below.setCell ?_ (by first | omega | (simp; done) | (simp; omega)) _ | refine bel_alloc ?_ _ | refine bel_trans ?_ (by assumption) | refine Below.trans ?_ (Below.mono (by assumption) (by first | omega | (simp; done) | (simp; omega)))))
  have hM5 : Blk W5 w1.heap.size 86 #[.int .i64 (num : Nat), .slice A l.length c] := by rw [hW5]; exact (Blk.new w1 _ _).alloc _
  have hE5 : Blk W5 (w1.heap.size + 1) 42 #[.int .i64 0, .string ⟨#[]⟩] := by rw [hW5]; exact blk_new2 w1 _ _ _
  go_upto_region 2 with fail
  rw [← hW5]
  clear hW5
  have e0c := hE5.cell 0
  have m0 := hM5.cell 0
  have m1 := hM5.cell 1
  simp at e0c m0 m1
  by_cases hn : num = 20
  ·subst hn
   obtain ⟨ck, ls, f, u, hls, hl, hf, hu⟩ := dec_20 hd
   have hl13 : l.length = 13 := by rw [hl]; simp [kexFs, hls]
   rw [hl13] at hM5 m1
   clear hl13
   match ls, hls, hl with
   | [l1, l2, l3, l4, l5, l6, l7, l8, l9, l10], _, hl =>
   subst hl
   obtain ⟨ad, b0, d0, b1, d1, b2, d2, b3, d3, b4, d4, b5, d5, b6, d6, b7, d7, b8, d8, b9, d9, b10, d10, b11, d11, b12, d12, rfl, hP⟩ := hF.par
   have hlenK : ∀ k ∈ [l1, l2, l3, l4, l5, l6, l7, l8, l9, l10], k.length ≤ 1000000 := by
    intro k hk
    have := dec_len hd ⟨110, 0, [], k⟩ (by unfold kexFs; exact List.mem_cons_of_mem _ (List.mem_append_left _ (List.mem_map.2 ⟨k, hk, rfl⟩)))
    have h2 : k.length ≤ 16 := this
    omega
   have hP5 := hP.below hb15
   have hb5 := HS.out.1.trans (hb15.mono HS.out.1.size)
   have hR5 := HS.out.2.1.below hb15 HS.out.2.1.lt
   have hE9 := HS.out.2.2.below hb15 HS.out.2.2.lt
   have hx1 : ((20 : Int) == 20) = true := by decide
   have hx2 : ((20 : Int) != 20) = false := by decide
   have H5 := hide (And.intro hP5 (And.intro hb5 (And.intro hR5 hE9)))
   have HD := hide (And.intro hd (And.intro hf hlenK))
   clear hP hP5 hb5 hR5 hE9 hd hf hlenK hF hb15 HS hM5 hE5
   go_upto_region 7 with fail
   refine wp_region_E (fun W => Below W5.heap.size W5 W) (fun i => [3, 7, 8, 9, 10].contains i) (by kernel_rfl) ?_
   obtain ⟨Wd, hWd⟩ : ∃ Wd, Wd = W5.drew := ⟨_, rfl⟩
   have hSd : Below W5.heap.size W5 Wd := by rw [hWd]; exact (Below.refl _ _).drew
   rw [← hWd]
   clear hWd
   refine wpAnyE_takeY (i := 0) (oi := ?_) (v := .slice (some ad) 13 c) ?_ ?_ ?_ ?_ ?_ ?_ ?_ ?_
   rotate_left 1
   ·(try simp only [List.getElem?_toArray, List.getElem?_cons_succ, List.getElem?_cons_zero]); exact rfl
   ·kernel_rfl
   ·kernel_rfl
   ·kernel_rfl
   ·rfl
   ·exact fun _ _ _ h => h
   ·exact Or.inl ⟨by rfl, fun w _ => by go_simp⟩
   try simp only [Act.put, List.setIfInBounds_toArray, List.set_cons_zero, List.set_cons_succ]
   refine wpAnyE_takeY (i := 1) (oi := ?_) (v := .pointer (some ad)) ?_ ?_ ?_ ?_ ?_ ?_ ?_ ?_
   rotate_left 1
   ·(try simp only [List.getElem?_toArray, List.getElem?_cons_succ, List.getElem?_cons_zero]); exact rfl
   ·kernel_rfl
   ·kernel_rfl
   ·kernel_rfl
   ·rfl
   ·exact fun _ _ _ h => h
   ·exact Or.inl ⟨by rfl, fun w _ => by go_simp⟩
   try simp only [Act.put, List.setIfInBounds_toArray, List.set_cons_zero, List.set_cons_succ]
   refine wpAnyE_takeY (i := 2) (oi := ?_) (v := .pointer (some ⟨ad.block, ad.off + 2, none⟩)) ?_ ?_ ?_ ?_ ?_ ?_ ?_ ?_
   rotate_left 1
   ·(try simp only [List.getElem?_toArray, List.getElem?_cons_succ, List.getElem?_cons_zero]); exact rfl
   ·kernel_rfl
   ·kernel_rfl
   ·kernel_rfl
   ·rfl
   ·exact fun _ _ _ h => h
   ·exact Or.inl ⟨by rfl, fun w _ => by go_simp⟩
   try simp only [Act.put, List.setIfInBounds_toArray, List.set_cons_zero, List.set_cons_succ]
   refine wpAnyE_takeY (i := 4) (oi := ?_) (v := .slice (some ad) 13 c) ?_ ?_ ?_ ?_ ?_ ?_ ?_ ?_
   rotate_left 1
   ·(try simp only [List.getElem?_toArray, List.getElem?_cons_succ, List.getElem?_cons_zero]); exact rfl
   ·kernel_rfl
   ·kernel_rfl
   ·kernel_rfl
   ·rfl
   ·exact fun _ _ _ h => h
   ·exact Or.inl ⟨by rfl, fun w _ => by go_simp⟩
   try simp only [Act.put, List.setIfInBounds_toArray, List.set_cons_zero, List.set_cons_succ]
   refine wpAnyE_takeY (i := 5) (oi := ?_) (v := .pointer (some (ad.add 44))) ?_ ?_ ?_ ?_ ?_ ?_ ?_ ?_
   rotate_left 1
   ·(try simp only [List.getElem?_toArray, List.getElem?_cons_succ, List.getElem?_cons_zero]); exact rfl
   ·kernel_rfl
   ·kernel_rfl
   ·kernel_rfl
   ·rfl
   ·exact fun _ _ _ h => h
   ·exact Or.inl ⟨by rfl, fun w _ => by go_simp⟩
   try simp only [Act.put, List.setIfInBounds_toArray, List.set_cons_zero, List.set_cons_succ]
   refine wpAnyE_takeY (i := 6) (oi := ?_) (v := .pointer (some ⟨(ad.add 44).block, (ad.add 44).off + 1, none⟩)) ?_ ?_ ?_ ?_ ?_ ?_ ?_ ?_
   rotate_left 1
   ·(try simp only [List.getElem?_toArray, List.getElem?_cons_succ, List.getElem?_cons_zero]); exact rfl
   ·kernel_rfl
   ·kernel_rfl
   ·kernel_rfl
   ·rfl
   ·exact fun _ _ _ h => h
   ·exact Or.inl ⟨by rfl, fun w _ => by go_simp⟩
   try simp only [Act.put, List.setIfInBounds_toArray, List.set_cons_zero, List.set_cons_succ]
   refine wpAnyE_take (i := 3) (oi := ?_) (v := .string (bs ck)) ?_ ?_ ?_ ?_ ?_ ?_ ?_ hSd ?_
   rotate_left 1
   ·(try simp only [List.getElem?_toArray, List.getElem?_cons_succ, List.getElem?_cons_zero]); exact rfl
   ·kernel_rfl
   ·kernel_rfl
   ·kernel_rfl
   ·kernel_rfl
   ·exact fun _ _ _ h => h
   ·refine Or.inl ⟨by rfl, fun w hSw => ?_⟩
    have q : w.cell? ⟨ad.block, ad.off + 2, none⟩ = some (.string (bs ck)) := ((H5.out.1.below hSw).at_ 0 _ _ rfl rfl).1.2.2.1
    clear hSw
    go_simp
   try simp only [Act.put, List.setIfInBounds_toArray, List.set_cons_zero, List.set_cons_succ]
   refine wpAnyE_take (i := 7) (oi := ?_) (v := .int .i64 f) ?_ ?_ ?_ ?_ ?_ ?_ ?_ hSd ?_
   rotate_left 1
   ·(try simp only [List.getElem?_toArray, List.getElem?_cons_succ, List.getElem?_cons_zero]); exact rfl
   ·kernel_rfl
   ·kernel_rfl
   ·kernel_rfl
   ·kernel_rfl
   ·exact fun _ _ _ h => h
   ·refine Or.inl ⟨by rfl, fun w hSw => ?_⟩
    have q : w.cell? ⟨ad.block, ad.off + 44 + 1, none⟩ = some (.int .i64 f) := ((H5.out.1.below hSw).at_ 11 _ _ rfl rfl).1.2.1
    clear hSw
    go_simp
   try simp only [Act.put, List.setIfInBounds_toArray, List.set_cons_zero, List.set_cons_succ]
   refine wpAnyE_take (i := 8) (oi := ?_) (v := .bool (f == 1)) ?_ ?_ ?_ ?_ ?_ ?_ ?_ hSd ?_
   rotate_left 1
   ·(try simp only [List.getElem?_toArray, List.getElem?_cons_succ, List.getElem?_cons_zero]); exact rfl
   ·kernel_rfl
   ·kernel_rfl
   ·kernel_rfl
   ·kernel_rfl
   ·exact fun _ _ _ h => h
   ·refine Or.inl ⟨by rfl, fun w hSw => ?_⟩
    clear hSw
    go_simp
   try simp only [Act.put, List.setIfInBounds_toArray, List.set_cons_zero, List.set_cons_succ]
   refine wpAnyE_take (i := 9) (oi := ?_) (v := .agg #[.string (bs ck), .slice none 0 0, .slice none 0 0, .slice none 0 0, .slice none 0 0, .slice none 0 0, .slice none 0 0, .slice none 0 0, .slice none 0 0, .slice none 0 0, .slice none 0 0, .bool false, .bool false, .bool false, .bool false, .bool (f == 1)]) ?_ ?_ ?_ ?_ ?_ ?_ ?_ hSd ?_
   rotate_left 1
   ·(try simp only [List.getElem?_toArray, List.getElem?_cons_succ, List.getElem?_cons_zero]); exact rfl
   ·kernel_rfl
   ·kernel_rfl
   ·kernel_rfl
   ·kernel_rfl
   ·exact fun _ _ _ h => h
   ·refine Or.inl ⟨by rfl, fun w hSw => ?_⟩
    clear hSw
    go_simp
   try simp only [Act.put, List.setIfInBounds_toArray, List.set_cons_zero, List.set_cons_succ]
   refine wpAnyE_ready (rs := [10]) (by kernel_rfl) (by simp) ?_
   refine AllReadyE.cons (o := ?_) ?_ (fun K hK => ?_) AllReadyE.nil
   rotate_left 1
   ·(try simp only [List.getElem?_toArray, List.getElem?_cons_succ, List.getElem?_cons_zero]); exact rfl
   refine step_eqA rfl (allI _ rfl _ _) ?_
   have hX := Blk.new Wd 45 #[.string ⟨#[]⟩, .slice none 0 0, .slice none 0 0, .slice none 0 0, .slice none 0 0, .slice none 0 0, .slice none 0 0, .slice none 0 0, .slice none 0 0, .slice none 0 0, .slice none 0 0, .bool false, .bool false, .bool false, .bool false, .bool false]
   have hSa := hSd.alloc hSd.size (.cells #[.string ⟨#[]⟩, .slice none 0 0, .slice none 0 0, .slice none 0 0, .slice none 0 0, .slice none 0 0, .slice none 0 0, .slice none 0 0, .slice none 0 0, .slice none 0 0, .slice none 0 0, .bool false, .bool false, .bool false, .bool false, .bool false] 45)
   refine hK.out _ _ hSa (fun _ => ?_)
   clear hK K
   try simp only [Act.put, List.setIfInBounds_toArray, List.set_cons_zero, List.set_cons_succ]
   obtain ⟨wa, hwa⟩ : ∃ wa, wa = Wd.alloc (.cells #[.string ⟨#[]⟩, .slice none 0 0, .slice none 0 0, .slice none 0 0, .slice none 0 0, .slice none 0 0, .slice none 0 0, .slice none 0 0, .slice none 0 0, .slice none 0 0, .slice none 0 0, .bool false, .bool false, .bool false, .bool false, .bool false] 45) := ⟨_, rfl⟩
   rw [← hwa] at hX hSa
   simp only [← hwa]
   clear hwa
   obtain ⟨xb, hxb⟩ : ∃ xb, xb = Wd.heap.size := ⟨_, rfl⟩
   have hxz : W5.heap.size ≤ xb := by rw [hxb]; exact hSd.size
   rw [← hxb] at hX
   simp only [← hxb]
   clear hxb
   refine wpAnyE_ready (rs := [11]) (by kernel_rfl) (by simp) ?_
   refine AllReadyE.late (o := ?_) ?_ rfl (fun K hK => ?_) AllReadyE.nil
   rotate_left 1
   ·(try simp only [List.getElem?_toArray, List.getElem?_cons_succ, List.getElem?_cons_zero]); exact rfl
   refine step_skipA rfl (stoI (x := .tmp 7) (y := .tmp 41) (s := bs ck) (b := (f == 1)) _ rfl _ (by rfl) (by rfl) _ hX) ?_
   refine hK.out _ _ ?_
   clear hK K
   try simp only [Act.put, List.setIfInBounds_toArray, List.set_cons_zero, List.set_cons_succ]
   refine wpAnyE_done (by kernel_rfl) ?_ _
   have hXn := sto16_blk hX (.string (bs ck)) (.slice none 0 0) (.slice none 0 0) (.slice none 0 0) (.slice none 0 0) (.slice none 0 0) (.slice none 0 0) (.slice none 0 0) (.slice none 0 0) (.slice none 0 0) (.slice none 0 0) (.bool false) (.bool false) (.bool false) (.bool false) (.bool (f == 1))
   have hBn := sto16_bel (r := xb) hSa hxz (.string (bs ck)) (.slice none 0 0) (.slice none 0 0) (.slice none 0 0) (.slice none 0 0) (.slice none 0 0) (.slice none 0 0) (.slice none 0 0) (.slice none 0 0) (.slice none 0 0) (.slice none 0 0) (.bool false) (.bool false) (.bool false) (.bool false) (.bool (f == 1))
   generalize sto16 wa xb (.string (bs ck)) (.slice none 0 0) (.slice none 0 0) (.slice none 0 0) (.slice none 0 0) (.slice none 0 0) (.slice none 0 0) (.slice none 0 0) (.slice none 0 0) (.slice none 0 0) (.slice none 0 0) (.bool false) (.bool false) (.bool false) (.bool false) (.bool (f == 1)) = w7 at hXn hBn ⊢
   clear hSd hSa hX
   go_upto_region 8 with fail
   have hP1 := fun (W : World) (hb : Below W5.heap.size W5 W) => ((H5.out.1.below hb).at_ 1 _ _ rfl rfl).2
   have HPl := hide (fun (W : World) (hb : Below W5.heap.size W5 W) => rplain16_any (w := W) (A := b1) (c := d1) (ls := l1) (hP1 W hb).txc.1 (by obtain ⟨_, _, e, hc, _⟩ := hP1 W hb; injection e with _ _ e3; rw [e3]; exact hc) (HD.out.2.2 l1 (by simp)))
   clear hP1
   refine wp_region_E (fun W => Below W5.heap.size W5 W) (fun i => [3, 4, 8, 12, 16, 20, 24, 28, 32, 33].contains i) (by kernel_rfl) ?_
   obtain ⟨Wd, hWd⟩ : ∃ Wd, Wd = w7.drew := ⟨_, rfl⟩
   have hSd : Below W5.heap.size W5 Wd := by rw [hWd]; exact hBn.drew
   have hXd : Blk Wd xb 45 #[.string (bs ck), .slice none 0 0, .slice none 0 0, .slice none 0 0, .slice none 0 0, .slice none 0 0, .slice none 0 0, .slice none 0 0, .slice none 0 0, .slice none 0 0, .slice none 0 0, .bool false, .bool false, .bool false, .bool false, .bool (f == 1)] := by rw [hWd]; exact hXn
   rw [← hWd]
   clear hWd hBn hXn
   refine wpAnyE_takeY (i := 0) (oi := ?_) (v := .slice (some ad) 13 c) ?_ ?_ ?_ ?_ ?_ ?_ ?_ ?_
   rotate_left 1
   ·(try simp only [List.getElem?_toArray, List.getElem?_cons_succ, List.getElem?_cons_zero]); exact rfl
   ·kernel_rfl
   ·kernel_rfl
   ·kernel_rfl
   ·rfl
   ·exact fun _ _ _ h => h
   ·exact Or.inl ⟨by rfl, fun w _ => by go_simp⟩
   try simp only [Act.put, List.setIfInBounds_toArray, List.set_cons_zero, List.set_cons_succ]
   refine wpAnyE_takeY (i := 1) (oi := ?_) (v := .pointer (some (ad.add 4))) ?_ ?_ ?_ ?_ ?_ ?_ ?_ ?_
   rotate_left 1
   ·(try simp only [List.getElem?_toArray, List.getElem?_cons_succ, List.getElem?_cons_zero]); exact rfl
   ·kernel_rfl
   ·kernel_rfl
   ·kernel_rfl
   ·rfl
   ·exact fun _ _ _ h => h
   ·exact Or.inl ⟨by rfl, fun w _ => by go_simp⟩
   try simp only [Act.put, List.setIfInBounds_toArray, List.set_cons_zero, List.set_cons_succ]
   refine wpAnyE_takeY (i := 2) (oi := ?_) (v := .pointer (some ⟨(ad.add 4).block, (ad.add 4).off + 3, none⟩)) ?_ ?_ ?_ ?_ ?_ ?_ ?_ ?_
   rotate_left 1
   ·(try simp only [List.getElem?_toArray, List.getElem?_cons_succ, List.getElem?_cons_zero]); exact rfl
   ·kernel_rfl
   ·kernel_rfl
   ·kernel_rfl
   ·rfl
   ·exact fun _ _ _ h => h
   ·exact Or.inl ⟨by rfl, fun w _ => by go_simp⟩
   try simp only [Act.put, List.setIfInBounds_toArray, List.set_cons_zero, List.set_cons_succ]
   refine wpAnyE_takeY (i := 5) (oi := ?_) (v := .slice (some ad) 13 c) ?_ ?_ ?_ ?_ ?_ ?_ ?_ ?_
   rotate_left 1
   ·(try simp only [List.getElem?_toArray, List.getElem?_cons_succ, List.getElem?_cons_zero]); exact rfl
   ·kernel_rfl
   ·kernel_rfl
   ·kernel_rfl
   ·rfl
   ·exact fun _ _ _ h => h
   ·exact Or.inl ⟨by rfl, fun w _ => by go_simp⟩
   try simp only [Act.put, List.setIfInBounds_toArray, List.set_cons_zero, List.set_cons_succ]
   refine wpAnyE_takeY (i := 6) (oi := ?_) (v := .pointer (some (ad.add 8))) ?_ ?_ ?_ ?_ ?_ ?_ ?_ ?_
   rotate_left 1
   ·(try simp only [List.getElem?_toArray, List.getElem?_cons_succ, List.getElem?_cons_zero]); exact rfl
   ·kernel_rfl
   ·kernel_rfl
   ·kernel_rfl
   ·rfl
   ·exact fun _ _ _ h => h
   ·exact Or.inl ⟨by rfl, fun w _ => by go_simp⟩
   try simp only [Act.put, List.setIfInBounds_toArray, List.set_cons_zero, List.set_cons_succ]
   refine wpAnyE_takeY (i := 7) (oi := ?_) (v := .pointer (some ⟨(ad.add 8).block, (ad.add 8).off + 3, none⟩)) ?_ ?_ ?_ ?_ ?_ ?_ ?_ ?_
   rotate_left 1
   ·(try simp only [List.getElem?_toArray, List.getElem?_cons_succ, List.getElem?_cons_zero]); exact rfl
   ·kernel_rfl
   ·kernel_rfl
   ·kernel_rfl
   ·rfl
   ·exact fun _ _ _ h => h
   ·exact Or.inl ⟨by rfl, fun w _ => by go_simp⟩
   try simp only [Act.put, List.setIfInBounds_toArray, List.set_cons_zero, List.set_cons_succ]
   refine wpAnyE_takeY (i := 9) (oi := ?_) (v := .slice (some ad) 13 c) ?_ ?_ ?_ ?_ ?_ ?_ ?_ ?_
   rotate_left 1
   ·(try simp only [List.getElem?_toArray, List.getElem?_cons_succ, List.getElem?_cons_zero]); exact rfl
   ·kernel_rfl
   ·kernel_rfl
   ·kernel_rfl
   ·rfl
   ·exact fun _ _ _ h => h
   ·exact Or.inl ⟨by rfl, fun w _ => by go_simp⟩
   try simp only [Act.put, List.setIfInBounds_toArray, List.set_cons_zero, List.set_cons_succ]
   refine wpAnyE_takeY (i := 10) (oi := ?_) (v := .pointer (some (ad.add 12))) ?_ ?_ ?_ ?_ ?_ ?_ ?_ ?_
   rotate_left 1
   ·(try simp only [List.getElem?_toArray, List.getElem?_cons_succ, List.getElem?_cons_zero]); exact rfl
   ·kernel_rfl
   ·kernel_rfl
   ·kernel_rfl
   ·rfl
   ·exact fun _ _ _ h => h
   ·exact Or.inl ⟨by rfl, fun w _ => by go_simp⟩
   try simp only [Act.put, List.setIfInBounds_toArray, List.set_cons_zero, List.set_cons_succ]
   refine wpAnyE_takeY (i := 11) (oi := ?_) (v := .pointer (some ⟨(ad.add 12).block, (ad.add 12).off + 3, none⟩)) ?_ ?_ ?_ ?_ ?_ ?_ ?_ ?_
   rotate_left 1
   ·(try simp only [List.getElem?_toArray, List.getElem?_cons_succ, List.getElem?_cons_zero]); exact rfl
   ·kernel_rfl
   ·kernel_rfl
   ·kernel_rfl
   ·rfl
   ·exact fun _ _ _ h => h
   ·exact Or.inl ⟨by rfl, fun w _ => by go_simp⟩
   try simp only [Act.put, List.setIfInBounds_toArray, List.set_cons_zero, List.set_cons_succ]
   refine wpAnyE_takeY (i := 13) (oi := ?_) (v := .slice (some ad) 13 c) ?_ ?_ ?_ ?_ ?_ ?_ ?_ ?_
   rotate_left 1
   ·(try simp only [List.getElem?_toArray, List.getElem?_cons_succ, List.getElem?_cons_zero]); exact rfl
   ·kernel_rfl
   ·kernel_rfl
   ·kernel_rfl
   ·rfl
   ·exact fun _ _ _ h => h
   ·exact Or.inl ⟨by rfl, fun w _ => by go_simp⟩
   try simp only [Act.put, List.setIfInBounds_toArray, List.set_cons_zero, List.set_cons_succ]
   refine wpAnyE_takeY (i := 14) (oi := ?_) (v := .pointer (some (ad.add 16))) ?_ ?_ ?_ ?_ ?_ ?_ ?_ ?_
   rotate_left 1
   ·(try simp only [List.getElem?_toArray, List.getElem?_cons_succ, List.getElem?_cons_zero]); exact rfl
   ·kernel_rfl
   ·kernel_rfl
   ·kernel_rfl
   ·rfl
   ·exact fun _ _ _ h => h
   ·exact Or.inl ⟨by rfl, fun w _ => by go_simp⟩
   try simp only [Act.put, List.setIfInBounds_toArray, List.set_cons_zero, List.set_cons_succ]
   refine wpAnyE_takeY (i := 15) (oi := ?_) (v := .pointer (some ⟨(ad.add 16).block, (ad.add 16).off + 3, none⟩)) ?_ ?_ ?_ ?_ ?_ ?_ ?_ ?_
   rotate_left 1
   ·(try simp only [List.getElem?_toArray, List.getElem?_cons_succ, List.getElem?_cons_zero]); exact rfl
   ·kernel_rfl
   ·kernel_rfl
   ·kernel_rfl
   ·rfl
   ·exact fun _ _ _ h => h
   ·exact Or.inl ⟨by rfl, fun w _ => by go_simp⟩
   try simp only [Act.put, List.setIfInBounds_toArray, List.set_cons_zero, List.set_cons_succ]
   refine wpAnyE_takeY (i := 17) (oi := ?_) (v := .slice (some ad) 13 c) ?_ ?_ ?_ ?_ ?_ ?_ ?_ ?_
   rotate_left 1
   ·(try simp only [List.getElem?_toArray, List.getElem?_cons_succ, List.getElem?_cons_zero]); exact rfl
   ·kernel_rfl
   ·kernel_rfl
   ·kernel_rfl
   ·rfl
   ·exact fun _ _ _ h => h
   ·exact Or.inl ⟨by rfl, fun w _ => by go_simp⟩
   try simp only [Act.put, List.setIfInBounds_toArray, List.set_cons_zero, List.set_cons_succ]
   refine wpAnyE_takeY (i := 18) (oi := ?_) (v := .pointer (some (ad.add 20))) ?_ ?_ ?_ ?_ ?_ ?_ ?_ ?_
   rotate_left 1
   ·(try simp only [List.getElem?_toArray, List.getElem?_cons_succ, List.getElem?_cons_zero]); exact rfl
   ·kernel_rfl
   ·kernel_rfl
   ·kernel_rfl
   ·rfl
   ·exact fun _ _ _ h => h
   ·exact Or.inl ⟨by rfl, fun w _ => by go_simp⟩
   try simp only [Act.put, List.setIfInBounds_toArray, List.set_cons_zero, List.set_cons_succ]
   refine wpAnyE_takeY (i := 19) (oi := ?_) (v := .pointer (some ⟨(ad.add 20).block, (ad.add 20).off + 3, none⟩)) ?_ ?_ ?_ ?_ ?_ ?_ ?_ ?_
   rotate_left 1
   ·(try simp only [List.getElem?_toArray, List.getElem?_cons_succ, List.getElem?_cons_zero]); exact rfl
   ·kernel_rfl
   ·kernel_rfl
   ·kernel_rfl
   ·rfl
   ·exact fun _ _ _ h => h
   ·exact Or.inl ⟨by rfl, fun w _ => by go_simp⟩
   try simp only [Act.put, List.setIfInBounds_toArray, List.set_cons_zero, List.set_cons_succ]
   refine wpAnyE_takeY (i := 21) (oi := ?_) (v := .slice (some ad) 13 c) ?_ ?_ ?_ ?_ ?_ ?_ ?_ ?_
   rotate_left 1
   ·(try simp only [List.getElem?_toArray, List.getElem?_cons_succ, List.getElem?_cons_zero]); exact rfl
   ·kernel_rfl
   ·kernel_rfl
   ·kernel_rfl
   ·rfl
   ·exact fun _ _ _ h => h
   ·exact Or.inl ⟨by rfl, fun w _ => by go_simp⟩
   try simp only [Act.put, List.setIfInBounds_toArray, List.set_cons_zero, List.set_cons_succ]
   refine wpAnyE_takeY (i := 22) (oi := ?_) (v := .pointer (some (ad.add 24))) ?_ ?_ ?_ ?_ ?_ ?_ ?_ ?_
   rotate_left 1
   ·(try simp only [List.getElem?_toArray, List.getElem?_cons_succ, List.getElem?_cons_zero]); exact rfl
   ·kernel_rfl
   ·kernel_rfl
   ·kernel_rfl
   ·rfl
   ·exact fun _ _ _ h => h
   ·exact Or.inl ⟨by rfl, fun w _ => by go_simp⟩
   try simp only [Act.put, List.setIfInBounds_toArray, List.set_cons_zero, List.set_cons_succ]
   refine wpAnyE_takeY (i := 23) (oi := ?_) (v := .pointer (some ⟨(ad.add 24).block, (ad.add 24).off + 3, none⟩)) ?_ ?_ ?_ ?_ ?_ ?_ ?_ ?_
   rotate_left 1
   ·(try simp only [List.getElem?_toArray, List.getElem?_cons_succ, List.getElem?_cons_zero]); exact rfl
   ·kernel_rfl
   ·kernel_rfl
   ·kernel_rfl
   ·rfl
   ·exact fun _ _ _ h => h
   ·exact Or.inl ⟨by rfl, fun w _ => by go_simp⟩
   try simp only [Act.put, List.setIfInBounds_toArray, List.set_cons_zero, List.set_cons_succ]
   refine wpAnyE_takeY (i := 25) (oi := ?_) (v := .slice (some ad) 13 c) ?_ ?_ ?_ ?_ ?_ ?_ ?_ ?_
   rotate_left 1
   ·(try simp only [List.getElem?_toArray, List.getElem?_cons_succ, List.getElem?_cons_zero]); exact rfl
   ·kernel_rfl
   ·kernel_rfl
   ·kernel_rfl
   ·rfl
   ·exact fun _ _ _ h => h
   ·exact Or.inl ⟨by rfl, fun w _ => by go_simp⟩
   try simp only [Act.put, List.setIfInBounds_toArray, List.set_cons_zero, List.set_cons_succ]
   refine wpAnyE_takeY (i := 26) (oi := ?_) (v := .pointer (some (ad.add 28))) ?_ ?_ ?_ ?_ ?_ ?_ ?_ ?_
   rotate_left 1
   ·(try simp only [List.getElem?_toArray, List.getElem?_cons_succ, List.getElem?_cons_zero]); exact rfl
   ·kernel_rfl
   ·kernel_rfl
   ·kernel_rfl
   ·rfl
   ·exact fun _ _ _ h => h
   ·exact Or.inl ⟨by rfl, fun w _ => by go_simp⟩
   try simp only [Act.put, List.setIfInBounds_toArray, List.set_cons_zero, List.set_cons_succ]
   refine wpAnyE_takeY (i := 27) (oi := ?_) (v := .pointer (some ⟨(ad.add 28).block, (ad.add 28).off + 3, none⟩)) ?_ ?_ ?_ ?_ ?_ ?_ ?_ ?_
   rotate_left 1
   ·(try simp only [List.getElem?_toArray, List.getElem?_cons_succ, List.getElem?_cons_zero]); exact rfl
   ·kernel_rfl
   ·kernel_rfl
   ·kernel_rfl
   ·rfl
   ·exact fun _ _ _ h => h
   ·exact Or.inl ⟨by rfl, fun w _ => by go_simp⟩
   try simp only [Act.put, List.setIfInBounds_toArray, List.set_cons_zero, List.set_cons_succ]
   refine wpAnyE_takeY (i := 29) (oi := ?_) (v := .slice (some ad) 13 c) ?_ ?_ ?_ ?_ ?_ ?_ ?_ ?_
   rotate_left 1
   ·(try simp only [List.getElem?_toArray, List.getElem?_cons_succ, List.getElem?_cons_zero]); exact rfl
   ·kernel_rfl
   ·kernel_rfl
   ·kernel_rfl
   ·rfl
   ·exact fun _ _ _ h => h
   ·exact Or.inl ⟨by rfl, fun w _ => by go_simp⟩
   try simp only [Act.put, List.setIfInBounds_toArray, List.set_cons_zero, List.set_cons_succ]
   refine wpAnyE_takeY (i := 30) (oi := ?_) (v := .pointer (some (ad.add 32))) ?_ ?_ ?_ ?_ ?_ ?_ ?_ ?_
   rotate_left 1
   ·(try simp only [List.getElem?_toArray, List.getElem?_cons_succ, List.getElem?_cons_zero]); exact rfl
   ·kernel_rfl
   ·kernel_rfl
   ·kernel_rfl
   ·rfl
   ·exact fun _ _ _ h => h
   ·exact Or.inl ⟨by rfl, fun w _ => by go_simp⟩
   try simp only [Act.put, List.setIfInBounds_toArray, List.set_cons_zero, List.set_cons_succ]
   refine wpAnyE_takeY (i := 31) (oi := ?_) (v := .pointer (some ⟨(ad.add 32).block, (ad.add 32).off + 3, none⟩)) ?_ ?_ ?_ ?_ ?_ ?_ ?_ ?_
   rotate_left 1
   ·(try simp only [List.getElem?_toArray, List.getElem?_cons_succ, List.getElem?_cons_zero]); exact rfl
   ·kernel_rfl
   ·kernel_rfl
   ·kernel_rfl
   ·rfl
   ·exact fun _ _ _ h => h
   ·exact Or.inl ⟨by rfl, fun w _ => by go_simp⟩
   try simp only [Act.put, List.setIfInBounds_toArray, List.set_cons_zero, List.set_cons_succ]
   refine wpAnyE_take (i := 3) (oi := ?_) (v := .slice b1 l1.length d1) ?_ ?_ ?_ ?_ ?_ ?_ ?_ hSd ?_
   rotate_left 1
   ·(try simp only [List.getElem?_toArray, List.getElem?_cons_succ, List.getElem?_cons_zero]); exact rfl
   ·kernel_rfl
   ·kernel_rfl
   ·kernel_rfl
   ·kernel_rfl
   ·exact fun _ _ _ h => h
   ·refine Or.inl ⟨by rfl, fun w hSw => ?_⟩
    have q : w.cell? ⟨ad.block, ad.off + 4 + 3, none⟩ = some (.slice b1 l1.length d1) := ((H5.out.1.below hSw).at_ 1 _ _ rfl rfl).1.2.2.2
    clear hSw
    go_simp
   try simp only [Act.put, List.setIfInBounds_toArray, List.set_cons_zero, List.set_cons_succ]
   refine wpAnyE_take (i := 8) (oi := ?_) (v := .slice b2 l2.length d2) ?_ ?_ ?_ ?_ ?_ ?_ ?_ hSd ?_
   rotate_left 1
   ·(try simp only [List.getElem?_toArray, List.getElem?_cons_succ, List.getElem?_cons_zero]); exact rfl
   ·kernel_rfl
   ·kernel_rfl
   ·kernel_rfl
   ·kernel_rfl
   ·exact fun _ _ _ h => h
   ·refine Or.inl ⟨by rfl, fun w hSw => ?_⟩
    have q : w.cell? ⟨ad.block, ad.off + 8 + 3, none⟩ = some (.slice b2 l2.length d2) := ((H5.out.1.below hSw).at_ 2 _ _ rfl rfl).1.2.2.2
    clear hSw
    go_simp
   try simp only [Act.put, List.setIfInBounds_toArray, List.set_cons_zero, List.set_cons_succ]
   refine wpAnyE_take (i := 12) (oi := ?_) (v := .slice b3 l3.length d3) ?_ ?_ ?_ ?_ ?_ ?_ ?_ hSd ?_
   rotate_left 1
   ·(try simp only [List.getElem?_toArray, List.getElem?_cons_succ, List.getElem?_cons_zero]); exact rfl
   ·kernel_rfl
   ·kernel_rfl
   ·kernel_rfl
   ·kernel_rfl
   ·exact fun _ _ _ h => h
   ·refine Or.inl ⟨by rfl, fun w hSw => ?_⟩
    have q : w.cell? ⟨ad.block, ad.off + 12 + 3, none⟩ = some (.slice b3 l3.length d3) := ((H5.out.1.below hSw).at_ 3 _ _ rfl rfl).1.2.2.2
    clear hSw
    go_simp
   try simp only [Act.put, List.setIfInBounds_toArray, List.set_cons_zero, List.set_cons_succ]
   refine wpAnyE_take (i := 16) (oi := ?_) (v := .slice b4 l4.length d4) ?_ ?_ ?_ ?_ ?_ ?_ ?_ hSd ?_
   rotate_left 1
   ·(try simp only [List.getElem?_toArray, List.getElem?_cons_succ, List.getElem?_cons_zero]); exact rfl
   ·kernel_rfl
   ·kernel_rfl
   ·kernel_rfl
   ·kernel_rfl
   ·exact fun _ _ _ h => h
   ·refine Or.inl ⟨by rfl, fun w hSw => ?_⟩
    have q : w.cell? ⟨ad.block, ad.off + 16 + 3, none⟩ = some (.slice b4 l4.length d4) := ((H5.out.1.below hSw).at_ 4 _ _ rfl rfl).1.2.2.2
    clear hSw
    go_simp
   try simp only [Act.put, List.setIfInBounds_toArray, List.set_cons_zero, List.set_cons_succ]
   refine wpAnyE_take (i := 20) (oi := ?_) (v := .slice b5 l5.length d5) ?_ ?_ ?_ ?_ ?_ ?_ ?_ hSd ?_
   rotate_left 1
   ·(try simp only [List.getElem?_toArray, List.getElem?_cons_succ, List.getElem?_cons_zero]); exact rfl
   ·kernel_rfl
   ·kernel_rfl
   ·kernel_rfl
   ·kernel_rfl
   ·exact fun _ _ _ h => h
   ·refine Or.inl ⟨by rfl, fun w hSw => ?_⟩
    have q : w.cell? ⟨ad.block, ad.off + 20 + 3, none⟩ = some (.slice b5 l5.length d5) := ((H5.out.1.below hSw).at_ 5 _ _ rfl rfl).1.2.2.2
    clear hSw
    go_simp
   try simp only [Act.put, List.setIfInBounds_toArray, List.set_cons_zero, List.set_cons_succ]
   refine wpAnyE_take (i := 24) (oi := ?_) (v := .slice b6 l6.length d6) ?_ ?_ ?_ ?_ ?_ ?_ ?_ hSd ?_
   rotate_left 1
   ·(try simp only [List.getElem?_toArray, List.getElem?_cons_succ, List.getElem?_cons_zero]); exact rfl
   ·kernel_rfl
   ·kernel_rfl
   ·kernel_rfl
   ·kernel_rfl
   ·exact fun _ _ _ h => h
   ·refine Or.inl ⟨by rfl, fun w hSw => ?_⟩
    have q : w.cell? ⟨ad.block, ad.off + 24 + 3, none⟩ = some (.slice b6 l6.length d6) := ((H5.out.1.below hSw).at_ 6 _ _ rfl rfl).1.2.2.2
    clear hSw
    go_simp
   try simp only [Act.put, List.setIfInBounds_toArray, List.set_cons_zero, List.set_cons_succ]
   refine wpAnyE_take (i := 28) (oi := ?_) (v := .slice b7 l7.length d7) ?_ ?_ ?_ ?_ ?_ ?_ ?_ hSd ?_
   rotate_left 1
   ·(try simp only [List.getElem?_toArray, List.getElem?_cons_succ, List.getElem?_cons_zero]); exact rfl
   ·kernel_rfl
   ·kernel_rfl
   ·kernel_rfl
   ·kernel_rfl
   ·exact fun _ _ _ h => h
   ·refine Or.inl ⟨by rfl, fun w hSw => ?_⟩
    have q : w.cell? ⟨ad.block, ad.off + 28 + 3, none⟩ = some (.slice b7 l7.length d7) := ((H5.out.1.below hSw).at_ 7 _ _ rfl rfl).1.2.2.2
    clear hSw
    go_simp
   try simp only [Act.put, List.setIfInBounds_toArray, List.set_cons_zero, List.set_cons_succ]
   refine wpAnyE_take (i := 32) (oi := ?_) (v := .slice b8 l8.length d8) ?_ ?_ ?_ ?_ ?_ ?_ ?_ hSd ?_
   rotate_left 1
   ·(try simp only [List.getElem?_toArray, List.getElem?_cons_succ, List.getElem?_cons_zero]); exact rfl
   ·kernel_rfl
   ·kernel_rfl
   ·kernel_rfl
   ·kernel_rfl
   ·exact fun _ _ _ h => h
   ·refine Or.inl ⟨by rfl, fun w hSw => ?_⟩
    have q : w.cell? ⟨ad.block, ad.off + 32 + 3, none⟩ = some (.slice b8 l8.length d8) := ((H5.out.1.below hSw).at_ 8 _ _ rfl rfl).1.2.2.2
    clear hSw
    go_simp
   try simp only [Act.put, List.setIfInBounds_toArray, List.set_cons_zero, List.set_cons_succ]
   refine wpAnyE_ready (rs := [4]) (by kernel_rfl) (by simp) ?_
   refine AllReadyE.cons (o := ?_) ?_ (fun K hK => ?_) AllReadyE.nil
   rotate_left 1
   ·(try simp only [List.getElem?_toArray, List.getElem?_cons_succ, List.getElem?_cons_zero]); exact rfl
   refine step_call1 (u := .slice b1 l1.length d1) (f := 56) rfl (callPl (x := .tmp 45) _ rfl _ (by rfl) _) (HPl.out _ hSd) ?_
   rintro e w8 ⟨rfl, rfl⟩
   refine ⟨_, rfl, ?_⟩
   refine hK.out _ _ hSd (fun _ => ?_)
   clear hK K
   try simp only [Act.put, List.setIfInBounds_toArray, List.set_cons_zero, List.set_cons_succ]
   refine wpAnyE_take (i := 33) (oi := ?_) (v := .agg #[.slice b1 (plainM l1).length d1, .slice b2 l2.length d2, .slice b3 l3.length d3, .slice b4 l4.length d4, .slice b5 l5.length d5, .slice b6 l6.length d6, .slice b7 l7.length d7, .slice b8 l8.length d8]) ?_ ?_ ?_ ?_ ?_ ?_ ?_ hSd ?_
   rotate_left 1
   ·(try simp only [List.getElem?_toArray, List.getElem?_cons_succ, List.getElem?_cons_zero]); exact rfl
   ·kernel_rfl
   ·kernel_rfl
   ·kernel_rfl
   ·kernel_rfl
   ·exact fun _ _ _ h => h
   ·refine Or.inl ⟨by rfl, fun w hSw => ?_⟩
    clear hSw
    go_simp
   try simp only [Act.put, List.setIfInBounds_toArray, List.set_cons_zero, List.set_cons_succ]
   refine wpAnyE_takeY (i := 34) (oi := ?_) (v := .pointer (some ⟨xb, 1, none⟩)) ?_ ?_ ?_ ?_ ?_ ?_ ?_ ?_
   rotate_left 1
   ·(try simp only [List.getElem?_toArray, List.getElem?_cons_succ, List.getElem?_cons_zero]); exact rfl
   ·kernel_rfl
   ·kernel_rfl
   ·kernel_rfl
   ·rfl
   ·exact fun _ _ _ h => h
   ·exact Or.inl ⟨by rfl, fun w _ => by go_simp⟩
   try simp only [Act.put, List.setIfInBounds_toArray, List.set_cons_zero, List.set_cons_succ]
   refine wpAnyE_ready (rs := [35]) (by kernel_rfl) (by simp) ?_
   refine AllReadyE.late (o := ?_) ?_ rfl (fun K hK => ?_) AllReadyE.nil
   rotate_left 1
   ·(try simp only [List.getElem?_toArray, List.getElem?_cons_succ, List.getElem?_cons_zero]); exact rfl
   refine step_skipA rfl (stoP8 (x := .tmp 76) (y := .tmp 75) _ rfl _ (by rfl) (by rfl) _ hXd) ?_
   refine hK.out _ _ ?_
   clear hK K
   try simp only [Act.put, List.setIfInBounds_toArray, List.set_cons_zero, List.set_cons_succ]
   refine wpAnyE_done (by kernel_rfl) ?_ _
   have hXn := sto8_blk hXd (.slice b1 (plainM l1).length d1) (.slice b2 l2.length d2) (.slice b3 l3.length d3) (.slice b4 l4.length d4) (.slice b5 l5.length d5) (.slice b6 l6.length d6) (.slice b7 l7.length d7) (.slice b8 l8.length d8)
   have hBn := sto8_bel (r := xb) hSd hxz (.slice b1 (plainM l1).length d1) (.slice b2 l2.length d2) (.slice b3 l3.length d3) (.slice b4 l4.length d4) (.slice b5 l5.length d5) (.slice b6 l6.length d6) (.slice b7 l7.length d7) (.slice b8 l8.length d8)
   generalize sto8 _ xb (.slice b1 (plainM l1).length d1) (.slice b2 l2.length d2) (.slice b3 l3.length d3) (.slice b4 l4.length d4) (.slice b5 l5.length d5) (.slice b6 l6.length d6) (.slice b7 l7.length d7) (.slice b8 l8.length d8) = w8 at hXn hBn ⊢
   clear hSd hXd HPl
   go_upto_region 9 with fail
   refine wp_region_E (fun W => Below W5.heap.size W5 W) (fun i => [3, 7, 8].contains i) (by kernel_rfl) ?_
   obtain ⟨Wd, hWd⟩ : ∃ Wd, Wd = w8.drew := ⟨_, rfl⟩
   have hSd : Below W5.heap.size W5 Wd := by rw [hWd]; exact hBn.drew
   have hXd : Blk Wd xb 45 #[.string (bs ck), .slice b1 (plainM l1).length d1, .slice b2 l2.length d2, .slice b3 l3.length d3, .slice b4 l4.length d4, .slice b5 l5.length d5, .slice b6 l6.length d6, .slice b7 l7.length d7, .slice b8 l8.length d8, .slice none 0 0, .slice none 0 0, .bool false, .bool false, .bool false, .bool false, .bool (f == 1)] := by rw [hWd]; exact hXn
   rw [← hWd]
   clear hWd hBn hXn
   refine wpAnyE_takeY (i := 0) (oi := ?_) (v := .slice (some ad) 13 c) ?_ ?_ ?_ ?_ ?_ ?_ ?_ ?_
   rotate_left 1
   ·(try simp only [List.getElem?_toArray, List.getElem?_cons_succ, List.getElem?_cons_zero]); exact rfl
   ·kernel_rfl
   ·kernel_rfl
   ·kernel_rfl
   ·rfl
   ·exact fun _ _ _ h => h
   ·exact Or.inl ⟨by rfl, fun w _ => by go_simp⟩
   try simp only [Act.put, List.setIfInBounds_toArray, List.set_cons_zero, List.set_cons_succ]
   refine wpAnyE_takeY (i := 1) (oi := ?_) (v := .pointer (some (ad.add 36))) ?_ ?_ ?_ ?_ ?_ ?_ ?_ ?_
   rotate_left 1
   ·(try simp only [List.getElem?_toArray, List.getElem?_cons_succ, List.getElem?_cons_zero]); exact rfl
   ·kernel_rfl
   ·kernel_rfl
   ·kernel_rfl
   ·rfl
   ·exact fun _ _ _ h => h
   ·exact Or.inl ⟨by rfl, fun w _ => by go_simp⟩
   try simp only [Act.put, List.setIfInBounds_toArray, List.set_cons_zero, List.set_cons_succ]
   refine wpAnyE_takeY (i := 2) (oi := ?_) (v := .pointer (some ⟨(ad.add 36).block, (ad.add 36).off + 3, none⟩)) ?_ ?_ ?_ ?_ ?_ ?_ ?_ ?_
   rotate_left 1
   ·(try simp only [List.getElem?_toArray, List.getElem?_cons_succ, List.getElem?_cons_zero]); exact rfl
   ·kernel_rfl
   ·kernel_rfl
   ·kernel_rfl
   ·rfl
   ·exact fun _ _ _ h => h
   ·exact Or.inl ⟨by rfl, fun w _ => by go_simp⟩
   try simp only [Act.put, List.setIfInBounds_toArray, List.set_cons_zero, List.set_cons_succ]
   refine wpAnyE_takeY (i := 4) (oi := ?_) (v := .slice (some ad) 13 c) ?_ ?_ ?_ ?_ ?_ ?_ ?_ ?_
   rotate_left 1
   ·(try simp only [List.getElem?_toArray, List.getElem?_cons_succ, List.getElem?_cons_zero]); exact rfl
   ·kernel_rfl
   ·kernel_rfl
   ·kernel_rfl
   ·rfl
   ·exact fun _ _ _ h => h
   ·exact Or.inl ⟨by rfl, fun w _ => by go_simp⟩
   try simp only [Act.put, List.setIfInBounds_toArray, List.set_cons_zero, List.set_cons_succ]
   refine wpAnyE_takeY (i := 5) (oi := ?_) (v := .pointer (some (ad.add 40))) ?_ ?_ ?_ ?_ ?_ ?_ ?_ ?_
   rotate_left 1
   ·(try simp only [List.getElem?_toArray, List.getElem?_cons_succ, List.getElem?_cons_zero]); exact rfl
   ·kernel_rfl
   ·kernel_rfl
   ·kernel_rfl
   ·rfl
   ·exact fun _ _ _ h => h
   ·exact Or.inl ⟨by rfl, fun w _ => by go_simp⟩
   try simp only [Act.put, List.setIfInBounds_toArray, List.set_cons_zero, List.set_cons_succ]
   refine wpAnyE_takeY (i := 6) (oi := ?_) (v := .pointer (some ⟨(ad.add 40).block, (ad.add 40).off + 3, none⟩)) ?_ ?_ ?_ ?_ ?_ ?_ ?_ ?_
   rotate_left 1
   ·(try simp only [List.getElem?_toArray, List.getElem?_cons_succ, List.getElem?_cons_zero]); exact rfl
   ·kernel_rfl
   ·kernel_rfl
   ·kernel_rfl
   ·rfl
   ·exact fun _ _ _ h => h
   ·exact Or.inl ⟨by rfl, fun w _ => by go_simp⟩
   try simp only [Act.put, List.setIfInBounds_toArray, List.set_cons_zero, List.set_cons_succ]
   refine wpAnyE_take (i := 3) (oi := ?_) (v := .slice b9 l9.length d9) ?_ ?_ ?_ ?_ ?_ ?_ ?_ hSd ?_
   rotate_left 1
   ·(try simp only [List.getElem?_toArray, List.getElem?_cons_succ, List.getElem?_cons_zero]); exact rfl
   ·kernel_rfl
   ·kernel_rfl
   ·kernel_rfl
   ·kernel_rfl
   ·exact fun _ _ _ h => h
   ·refine Or.inl ⟨by rfl, fun w hSw => ?_⟩
    have q : w.cell? ⟨ad.block, ad.off + 36 + 3, none⟩ = some (.slice b9 l9.length d9) := ((H5.out.1.below hSw).at_ 9 _ _ rfl rfl).1.2.2.2
    clear hSw
    go_simp
   try simp only [Act.put, List.setIfInBounds_toArray, List.set_cons_zero, List.set_cons_succ]
   refine wpAnyE_take (i := 7) (oi := ?_) (v := .slice b10 l10.length d10) ?_ ?_ ?_ ?_ ?_ ?_ ?_ hSd ?_
   rotate_left 1
   ·(try simp only [List.getElem?_toArray, List.getElem?_cons_succ, List.getElem?_cons_zero]); exact rfl
   ·kernel_rfl
   ·kernel_rfl
   ·kernel_rfl
   ·kernel_rfl
   ·exact fun _ _ _ h => h
   ·refine Or.inl ⟨by rfl, fun w hSw => ?_⟩
    have q : w.cell? ⟨ad.block, ad.off + 40 + 3, none⟩ = some (.slice b10 l10.length d10) := ((H5.out.1.below hSw).at_ 10 _ _ rfl rfl).1.2.2.2
    clear hSw
    go_simp
   try simp only [Act.put, List.setIfInBounds_toArray, List.set_cons_zero, List.set_cons_succ]
   refine wpAnyE_take (i := 8) (oi := ?_) (v := .agg #[.slice b9 l9.length d9, .slice b10 l10.length d10]) ?_ ?_ ?_ ?_ ?_ ?_ ?_ hSd ?_
   rotate_left 1
   ·(try simp only [List.getElem?_toArray, List.getElem?_cons_succ, List.getElem?_cons_zero]); exact rfl
   ·kernel_rfl
   ·kernel_rfl
   ·kernel_rfl
   ·kernel_rfl
   ·exact fun _ _ _ h => h
   ·refine Or.inl ⟨by rfl, fun w hSw => ?_⟩
    clear hSw
    go_simp
   try simp only [Act.put, List.setIfInBounds_toArray, List.set_cons_zero, List.set_cons_succ]
   refine wpAnyE_takeY (i := 9) (oi := ?_) (v := .pointer (some ⟨xb, 9, none⟩)) ?_ ?_ ?_ ?_ ?_ ?_ ?_ ?_
   rotate_left 1
   ·(try simp only [List.getElem?_toArray, List.getElem?_cons_succ, List.getElem?_cons_zero]); exact rfl
   ·kernel_rfl
   ·kernel_rfl
   ·kernel_rfl
   ·rfl
   ·exact fun _ _ _ h => h
   ·exact Or.inl ⟨by rfl, fun w _ => by go_simp⟩
   try simp only [Act.put, List.setIfInBounds_toArray, List.set_cons_zero, List.set_cons_succ]
   refine wpAnyE_ready (rs := [10]) (by kernel_rfl) (by simp) ?_
   refine AllReadyE.late (o := ?_) ?_ rfl (fun K hK => ?_) AllReadyE.nil
   rotate_left 1
   ·(try simp only [List.getElem?_toArray, List.getElem?_cons_succ, List.getElem?_cons_zero]); exact rfl
   refine step_skipA rfl (stoL2 (x := .tmp 86) (y := .tmp 85) _ rfl _ (by rfl) (by rfl) _ hXd (by simp)) ?_
   refine hK.out _ _ ?_
   clear hK K
   try simp only [Act.put, List.setIfInBounds_toArray, List.set_cons_zero, List.set_cons_succ]
   refine wpAnyE_done (by kernel_rfl) ?_ _
   have hXn : Blk ((Wd.setCell ⟨xb, 9, none⟩ (.slice b9 l9.length d9)).setCell ⟨xb, 10, none⟩ (.slice b10 l10.length d10)) xb 45 #[.string (bs ck), .slice b1 (plainM l1).length d1, .slice b2 l2.length d2, .slice b3 l3.length d3, .slice b4 l4.length d4, .slice b5 l5.length d5, .slice b6 l6.length d6, .slice b7 l7.length d7, .slice b8 l8.length d8, .slice b9 l9.length d9, .slice b10 l10.length d10, .bool false, .bool false, .bool false, .bool false, .bool (f == 1)] := by simpa using (hXd.set_ 9 (.slice b9 l9.length d9)).set_ 10 (.slice b10 l10.length d10)
   have hBn := (hSd.setCell (p := ⟨xb, 9, none⟩) hxz (.slice b9 l9.length d9)).setCell (p := ⟨xb, 10, none⟩) hxz (.slice b10 l10.length d10)
   generalize ((Wd.setCell ⟨xb, 9, none⟩ (.slice b9 l9.length d9)).setCell ⟨xb, 10, none⟩ (.slice b10 l10.length d10)) = w9 at hXn hBn ⊢
   clear hSd hXd
   go_upto_region 10 with fail
   have q := ((H5.out.1.below hBn).at_ 1 _ _ rfl rfl).1.2.2.2
   have q : w9.cell? ⟨ad.block, ad.off + 4 + 3, none⟩ = some (.slice b1 l1.length d1) := q
   have x0 := hXn.cell 11
   have x1 := hXn.frozen 11
   simp at x0
   have HH := hide (show Calls Tryz.prog 57 #[.slice b1 l1.length d1, .string ⟨#[101, 120, 116, 45, 105, 110, 102, 111, 45, 99]⟩] w9 (fun e w' => e = .returned (.bool (decide (mark0 ∈ l1))) ∧ w' = w9) from rhas_any ((H5.out.1.below hBn).at_ 1 _ _ rfl rfl).2.txc.1 (by have := HD.out.2.2 l1 (by simp); omega) mark0)
   have HXB := hide (And.intro hXn hBn)
   clear hXn hBn
   go_upto_region 11 with (first
    | (go_at_call 57; refine HH.out.mono ?_; rintro e wq ⟨rfl, hwq⟩; rw [hwq]; clear hwq wq)
    | fail)
   have hXn : Blk (w9.setCell ⟨xb, 11, none⟩ (.bool (decide (mark0 ∈ l1)))) xb 45 #[.string (bs ck), .slice b1 (plainM l1).length d1, .slice b2 l2.length d2, .slice b3 l3.length d3, .slice b4 l4.length d4, .slice b5 l5.length d5, .slice b6 l6.length d6, .slice b7 l7.length d7, .slice b8 l8.length d8, .slice b9 l9.length d9, .slice b10 l10.length d10, .bool (decide (mark0 ∈ l1)), .bool false, .bool false, .bool false, .bool (f == 1)] := by have := HXB.out.1.set_ 11 (.bool (decide (mark0 ∈ l1))); simpa using this
   have hBn := HXB.out.2.setCell (p := ⟨xb, 11, none⟩) hxz (.bool (decide (mark0 ∈ l1)))
   clear q x0 x1 HH HXB
   generalize w9.setCell ⟨xb, 11, none⟩ (.bool (decide (mark0 ∈ l1))) = w10 at hXn hBn ⊢
   have q := ((H5.out.1.below hBn).at_ 1 _ _ rfl rfl).1.2.2.2
   have q : w10.cell? ⟨ad.block, ad.off + 4 + 3, none⟩ = some (.slice b1 l1.length d1) := q
   have x0 := hXn.cell 12
   have x1 := hXn.frozen 12
   simp at x0
   have HH := hide (show Calls Tryz.prog 57 #[.slice b1 l1.length d1, .string ⟨#[101, 120, 116, 45, 105, 110, 102, 111, 45, 115]⟩] w10 (fun e w' => e = .returned (.bool (decide (mark1 ∈ l1))) ∧ w' = w10) from rhas_any ((H5.out.1.below hBn).at_ 1 _ _ rfl rfl).2.txc.1 (by have := HD.out.2.2 l1 (by simp); omega) mark1)
   have HXB := hide (And.intro hXn hBn)
   clear hXn hBn
   go_upto_region 12 with (first
    | (go_at_call 57; refine HH.out.mono ?_; rintro e wq ⟨rfl, hwq⟩; rw [hwq]; clear hwq wq)
    | fail)
   have hXn : Blk (w10.setCell ⟨xb, 12, none⟩ (.bool (decide (mark1 ∈ l1)))) xb 45 #[.string (bs ck), .slice b1 (plainM l1).length d1, .slice b2 l2.length d2, .slice b3 l3.length d3, .slice b4 l4.length d4, .slice b5 l5.length d5, .slice b6 l6.length d6, .slice b7 l7.length d7, .slice b8 l8.length d8, .slice b9 l9.length d9, .slice b10 l10.length d10, .bool (decide (mark0 ∈ l1)), .bool (decide (mark1 ∈ l1)), .bool false, .bool false, .bool (f == 1)] := by have := HXB.out.1.set_ 12 (.bool (decide (mark1 ∈ l1))); simpa using this
   have hBn := HXB.out.2.setCell (p := ⟨xb, 12, none⟩) hxz (.bool (decide (mark1 ∈ l1)))
   clear q x0 x1 HH HXB
   generalize w10.setCell ⟨xb, 12, none⟩ (.bool (decide (mark1 ∈ l1))) = w11 at hXn hBn ⊢
   have q := ((H5.out.1.below hBn).at_ 1 _ _ rfl rfl).1.2.2.2
   have q : w11.cell? ⟨ad.block, ad.off + 4 + 3, none⟩ = some (.slice b1 l1.length d1) := q
   have x0 := hXn.cell 13
   have x1 := hXn.frozen 13
   simp at x0
   have HH := hide (show Calls Tryz.prog 57 #[.slice b1 l1.length d1, .string ⟨#[107, 101, 120, 45, 115, 116, 114, 105, 99, 116, 45, 99, 45, 118, 48, 48]⟩] w11 (fun e w' => e = .returned (.bool (decide (mark2 ∈ l1))) ∧ w' = w11) from rhas_any ((H5.out.1.below hBn).at_ 1 _ _ rfl rfl).2.txc.1 (by have := HD.out.2.2 l1 (by simp); omega) mark2)
   have HXB := hide (And.intro hXn hBn)
   clear hXn hBn
   go_upto_region 13 with (first
    | (go_at_call 57; refine HH.out.mono ?_; rintro e wq ⟨rfl, hwq⟩; rw [hwq]; clear hwq wq)
    | fail)
   have hXn : Blk (w11.setCell ⟨xb, 13, none⟩ (.bool (decide (mark2 ∈ l1)))) xb 45 #[.string (bs ck), .slice b1 (plainM l1).length d1, .slice b2 l2.length d2, .slice b3 l3.length d3, .slice b4 l4.length d4, .slice b5 l5.length d5, .slice b6 l6.length d6, .slice b7 l7.length d7, .slice b8 l8.length d8, .slice b9 l9.length d9, .slice b10 l10.length d10, .bool (decide (mark0 ∈ l1)), .bool (decide (mark1 ∈ l1)), .bool (decide (mark2 ∈ l1)), .bool false, .bool (f == 1)] := by have := HXB.out.1.set_ 13 (.bool (decide (mark2 ∈ l1))); simpa using this
   have hBn := HXB.out.2.setCell (p := ⟨xb, 13, none⟩) hxz (.bool (decide (mark2 ∈ l1)))
   clear q x0 x1 HH HXB
   generalize w11.setCell ⟨xb, 13, none⟩ (.bool (decide (mark2 ∈ l1))) = w12 at hXn hBn ⊢
   have q := ((H5.out.1.below hBn).at_ 1 _ _ rfl rfl).1.2.2.2
   have q : w12.cell? ⟨ad.block, ad.off + 4 + 3, none⟩ = some (.slice b1 l1.length d1) := q
   have x0 := hXn.cell 14
   have x1 := hXn.frozen 14
   simp at x0
   have HH := hide (show Calls Tryz.prog 57 #[.slice b1 l1.length d1, .string ⟨#[107, 101, 120, 45, 115, 116, 114, 105, 99, 116, 45, 115, 45, 118, 48, 48]⟩] w12 (fun e w' => e = .returned (.bool (decide (mark3 ∈ l1))) ∧ w' = w12) from rhas_any ((H5.out.1.below hBn).at_ 1 _ _ rfl rfl).2.txc.1 (by have := HD.out.2.2 l1 (by simp); omega) mark3)
   have HXB := hide (And.intro hXn hBn)
   clear hXn hBn
   go_upto_region 14 with (first
    | (go_at_call 57; refine HH.out.mono ?_; rintro e wq ⟨rfl, hwq⟩; rw [hwq]; clear hwq wq)
    | fail)
   have hXn : Blk (w12.setCell ⟨xb, 14, none⟩ (.bool (decide (mark3 ∈ l1)))) xb 45 #[.string (bs ck), .slice b1 (plainM l1).length d1, .slice b2 l2.length d2, .slice b3 l3.length d3, .slice b4 l4.length d4, .slice b5 l5.length d5, .slice b6 l6.length d6, .slice b7 l7.length d7, .slice b8 l8.length d8, .slice b9 l9.length d9, .slice b10 l10.length d10, .bool (decide (mark0 ∈ l1)), .bool (decide (mark1 ∈ l1)), .bool (decide (mark2 ∈ l1)), .bool (decide (mark3 ∈ l1)), .bool (f == 1)] := by have := HXB.out.1.set_ 14 (.bool (decide (mark3 ∈ l1))); simpa using this
   have hBn := HXB.out.2.setCell (p := ⟨xb, 14, none⟩) hxz (.bool (decide (mark3 ∈ l1)))
   clear q x0 x1 HH HXB
   generalize w12.setCell ⟨xb, 14, none⟩ (.bool (decide (mark3 ∈ l1))) = w13 at hXn hBn ⊢
   have hN13 := parI_all (H5.out.1.below hBn) HD.out.2.2
   have hC13 : AllC w13 [.slice b1 (plainM l1).length d1, .slice b2 l2.length d2, .slice b3 l3.length d3, .slice b4 l4.length d4, .slice b5 l5.length d5, .slice b6 l6.length d6, .slice b7 l7.length d7, .slice b8 l8.length d8, .slice b9 l9.length d9, .slice b10 l10.length d10] [plainM l1, l2, l3, l4, l5, l6, l7, l8, l9, l10] := allC_of rfl hN13
   have hszf := rp_sz (p := pl.data.toList) Hpl.out HD.out.1 HD.out.2.1
   have HRB := hide (rbuild16_any (w := w13) (bs ck) (decide (mark0 ∈ l1)) (decide (mark1 ∈ l1)) (decide (mark2 ∈ l1)) (decide (mark3 ∈ l1)) (f == 1) (l := kexMsg ⟨ck, plainM l1, [l2, l3, l4, l5, l6, l7, l8, l9, l10], decide (mark0 ∈ l1), decide (mark1 ∈ l1), decide (mark2 ∈ l1), decide (mark3 ∈ l1), (f == 1)⟩) (hC13.2 0 _ _ rfl rfl).1.1 (by have := (hC13.2 0 _ (plainM l1) rfl rfl).2; omega) hszf (by show (13 : Nat) ≤ 1000; decide) (hide (fun W2 hb2 => rmsg16_any ck (decide (mark0 ∈ l1)) (decide (mark1 ∈ l1)) (decide (mark2 ∈ l1)) (decide (mark3 ∈ l1)) (f == 1) (hC13.below hb2))))
   have HXB := hide (And.intro hXn (And.intro hBn hN13))
   have HW0 := hide (show w.heap.size + 1 < W0.heap.size from HX.out.2.2.lt)
   have x0 := HXB.out.1.cell 0
   have x1 := HXB.out.1.cell 1
   have x2 := HXB.out.1.cell 2
   have x3 := HXB.out.1.cell 3
   have x4 := HXB.out.1.cell 4
   have x5 := HXB.out.1.cell 5
   have x6 := HXB.out.1.cell 6
   have x7 := HXB.out.1.cell 7
   have x8 := HXB.out.1.cell 8
   have x9 := HXB.out.1.cell 9
   have x10 := HXB.out.1.cell 10
   have x11 := HXB.out.1.cell 11
   have x12 := HXB.out.1.cell 12
   have x13 := HXB.out.1.cell 13
   have x14 := HXB.out.1.cell 14
   have x15 := HXB.out.1.cell 15
   simp only [List.getElem?_toArray, List.getElem?_cons_zero, List.getElem?_cons_succ] at x0 x1 x2 x3 x4 x5 x6 x7 x8 x9 x10 x11 x12 x13 x14 x15
   clear hXn hBn hC13 hszf hN13
   go_wp2_with fail
   refine HRB.out.mono ?_
   rintro e w14 ⟨hb14, hr14⟩
   clear HRB
   rcases hr14 with ⟨hmk, s2, hs2, rfl⟩ | ⟨ps2, k2, hk2, hk0, rfl⟩
   ·exact (HOK.out.2.2 ck l1 l2 l3 l4 l5 l6 l7 l8 l9 l10 f u HD.out.1 s2 hs2).elim
   ·have HO := hide (rp_no (p := pl.data.toList) HD.out.1 HD.out.2.1 hk2)
    have hx1 : ((k2 : Int) == 0) = false := by rw [beq_eq_false_iff_ne]; omega
    have hx2 : ((k2 : Int) != 0) = true := by simp [bne, hx1]
    clear hk2 hk0
    generalize bs (atL ps2) = ap2
    have hbx := (Below.refl w14.heap.size w14).alloc (Nat.le_refl _) (.cells #[.int .i64 (k2 : Nat), .string ap2] 42)
    have hN5 := Blk.new w14 42 #[.int .i64 (k2 : Nat), .string ap2]
    have hbx13 := hb14.trans (hbx.mono hb14.size)
    have hb5x := HXB.out.2.1.trans (hbx13.mono HXB.out.2.1.size)
    go_upto_region 15 with fail
    generalize w14.alloc (.cells #[.int .i64 (k2 : Nat), .string ap2] 42) = w15 at hbx hN5 hb5x hbx13 ⊢
    generalize w14.heap.size = b15 at hN5 ⊢
    have e0c := hN5.cell 0
    simp at e0c
    have hXz := HXB.out.1.below hbx13 HXB.out.1.lt
    have hRz := H5.out.2.2.1.below hb5x H5.out.2.2.1.lt
    have hEz := H5.out.2.2.2.below hb5x H5.out.2.2.2.lt
    have hbz := H5.out.2.1.trans (hb5x.mono H5.out.2.1.size)
    clear x0 x1 x2 x3 x4 x5 x6 x7 x8 x9 x10 x11 x12 x13 x14 x15 hbx hb5x hb14
    have HE := hide (show ParE (decS pl.data.toList) [kexB] 3 from .inr (.inr ⟨ck, l1, [l2, l3, l4, l5, l6, l7, l8, l9, l10], f, u, HD.out.1, rfl, HD.out.2.1, HO.out, rfl, rfl⟩))
    have HK0 := hide (show (3 : Nat) ≠ 0 by decide)
    have HAT := hide (show bs (atL [kexB]) = (⟨#[107, 101, 120, 105, 110, 105, 116, 32]⟩ : ByteArray) from by kernel_rfl)
    clear hXz
    have r0 := hRz.cell 0
    have t0 := hRz.frozen 0
    have r1 := hRz.cell 1
    have t1 := hRz.frozen 1
    have r2 := hRz.cell 2
    have t2 := hRz.frozen 2
    have r3 := hRz.cell 3
    have t3 := hRz.frozen 3
    have r4 := hRz.cell 4
    have t4 := hRz.frozen 4
    have r5 := hRz.cell 5
    have t5 := hRz.frozen 5
    have r6 := hRz.cell 6
    have t6 := hRz.frozen 6
    have r7 := hRz.cell 7
    have t7 := hRz.frozen 7
    have r8 := hRz.cell 8
    have t8 := hRz.frozen 8
    have r9 := hRz.cell 9
    have t9 := hRz.frozen 9
    have r10 := hRz.cell 10
    have t10 := hRz.frozen 10
    have r11 := hRz.cell 11
    have t11 := hRz.frozen 11
    have r12 := hRz.cell 12
    have t12 := hRz.frozen 12
    have r13 := hRz.cell 13
    have t13 := hRz.frozen 13
    have r14 := hRz.cell 14
    have t14 := hRz.frozen 14
    have r15 := hRz.cell 15
    have t15 := hRz.frozen 15
    simp at r0 r1 r2 r3 r4 r5 r6 r7 r8 r9 r10 r11 r12 r13 r14 r15
    have y0 := hEz.cell 0
    have y1 := hEz.cell 1
    have s0 := hEz.frozen 0
    have s1 := hEz.frozen 1
    simp at y0 y1
    go_wp2_with fail
    obtain ⟨wF, hwF⟩ : ∃ wF, wF = (((sto16 w15 w.heap.size (.string ⟨#[]⟩) (.slice none 0 0) (.slice none 0 0) (.slice none 0 0) (.slice none 0 0) (.slice none 0 0) (.slice none 0 0) (.slice none 0 0) (.slice none 0 0) (.slice none 0 0) (.slice none 0 0) (.bool false) (.bool false) (.bool false) (.bool false) (.bool false)).setCell ⟨w.heap.size + 1, 0, none⟩ (.int .i64 (3 : Nat))).setCell ⟨w.heap.size + 1, 1, none⟩ (.string (⟨#[107, 101, 120, 105, 110, 105, 116, 32]⟩))) := ⟨_, rfl⟩
    obtain ⟨hF, hG, hbF⟩ := rerr_fin (k := 3) (s := ⟨#[107, 101, 120, 105, 110, 105, 116, 32]⟩) hRz hEz hbz (Nat.le_refl _)
    have hch : ((((((((((((((((((w15.setCell ⟨w.heap.size, 0, none⟩ (.string ⟨#[]⟩)).setCell ⟨w.heap.size, 1, none⟩ (.slice none 0 0)).setCell ⟨w.heap.size, 2, none⟩ (.slice none 0 0)).setCell ⟨w.heap.size, 3, none⟩ (.slice none 0 0)).setCell ⟨w.heap.size, 4, none⟩ (.slice none 0 0)).setCell ⟨w.heap.size, 5, none⟩ (.slice none 0 0)).setCell ⟨w.heap.size, 6, none⟩ (.slice none 0 0)).setCell ⟨w.heap.size, 7, none⟩ (.slice none 0 0)).setCell ⟨w.heap.size, 8, none⟩ (.slice none 0 0)).setCell ⟨w.heap.size, 9, none⟩ (.slice none 0 0)).setCell ⟨w.heap.size, 10, none⟩ (.slice none 0 0)).setCell ⟨w.heap.size, 11, none⟩ (.bool false)).setCell ⟨w.heap.size, 12, none⟩ (.bool false)).setCell ⟨w.heap.size, 13, none⟩ (.bool false)).setCell ⟨w.heap.size, 14, none⟩ (.bool false)).setCell ⟨w.heap.size, 15, none⟩ (.bool false)).setCell ⟨w.heap.size + 1, 0, none⟩ (.int .i64 3)).setCell ⟨w.heap.size + 1, 1, none⟩ (.string (⟨#[107, 101, 120, 105, 110, 105, 116, 32]⟩))) = wF := hwF.symm
    rw [← hwF] at hF hG hbF
    rw [hch]
    clear hwF hch r0 t0 r1 t1 r2 t2 r3 t3 r4 t4 r5 t5 r6 t6 r7 t7 r8 t8 r9 t9 r10 t10 r11 t11 r12 t12 r13 t13 r14 t14 r15 t15 y0 y1 s0 s1
    have q0 := hF.cell 0
    have q1 := hF.cell 1
    have q2 := hF.cell 2
    have q3 := hF.cell 3
    have q4 := hF.cell 4
    have q5 := hF.cell 5
    have q6 := hF.cell 6
    have q7 := hF.cell 7
    have q8 := hF.cell 8
    have q9 := hF.cell 9
    have q10 := hF.cell 10
    have q11 := hF.cell 11
    have q12 := hF.cell 12
    have q13 := hF.cell 13
    have q14 := hF.cell 14
    have q15 := hF.cell 15
    have q16 := hG.cell 0
    have q17 := hG.cell 1
    simp at q0 q1 q2 q3 q4 q5 q6 q7 q8 q9 q10 q11 q12 q13 q14 q15 q16 q17
    have HF := hide (show RParP pl.data.toList w (.returned (.tuple #[.agg #[.string ⟨#[]⟩, .slice none 0 0, .slice none 0 0, .slice none 0 0, .slice none 0 0, .slice none 0 0, .slice none 0 0, .slice none 0 0, .slice none 0 0, .slice none 0 0, .slice none 0 0, .bool false, .bool false, .bool false, .bool false, .bool false], .agg #[.int .i64 3, .string (⟨#[107, 101, 120, 105, 110, 105, 116, 32]⟩)]])) wF from ⟨hbF, .inr ⟨[kexB], 3, HE.out, HK0.out, by first | (rw [HAT.out]; done) | (rw [HAT.out]; rfl)⟩⟩)
    clear hF hG hbF hRz hEz hbz
    exact bodyPost_ret (v := .tuple #[.agg #[.string ⟨#[]⟩, .slice none 0 0, .slice none 0 0, .slice none 0 0, .slice none 0 0, .slice none 0 0, .slice none 0 0, .slice none 0 0, .slice none 0 0, .slice none 0 0, .slice none 0 0, .bool false, .bool false, .bool false, .bool false, .bool false], .agg #[.int .i64 3, .string (⟨#[107, 101, 120, 105, 110, 105, 116, 32]⟩)]]) (by simp [results, Tryz.results20, go_sem, q0, q1, q2, q3, q4, q5, q6, q7, q8, q9, q10, q11, q12, q13, q14, q15, q16, q17]) rfl HF.out
  ·obtain ⟨l9, h9⟩ := HOK.out.1
   rw [hd] at h9
   injection h9 with h9 _
   exact absurd h9 hn
 ·obtain ⟨l9, h9⟩ := HOK.out.1
  rw [h9] at hk
  cases hk
theorem rparse16_any {w : World} (pl : ByteArray) (hpl : pl.size ≤ 2000) : Calls Tryz.prog 20 #[.string pl] w (RParP pl.data.toList w) := by
 by_cases h : ∃ l, decS pl.data.toList = .ok 20 l
 ·by_cases h2 : ∃ ck l1 l2 l3 l4 l5 l6 l7 l8 l9 l10 f, decS pl.data.toList = .ok 20 (kexFs ck [l1, l2, l3, l4, l5, l6, l7, l8, l9, l10] f 0) ∧ markedL (splitM l1).rest = false
  ·exact rparse16_y pl hpl h2
  ·have hmk : ∀ ck l1 l2 l3 l4 l5 l6 l7 l8 l9 l10 f, decS pl.data.toList = .ok 20 (kexFs ck [l1, l2, l3, l4, l5, l6, l7, l8, l9, l10] f 0) → markedL (splitM l1).rest = true := fun ck l1 l2 l3 l4 l5 l6 l7 l8 l9 l10 f hd => by
    cases hm : markedL (splitM l1).rest with
    | true => rfl
    | false => exact absurd ⟨ck, l1, l2, l3, l4, l5, l6, l7, l8, l9, l10, f, hd, hm⟩ h2
   by_cases h3 : ∀ ck l1 l2 l3 l4 l5 l6 l7 l8 l9 l10 f u, decS pl.data.toList = .ok 20 (kexFs ck [l1, l2, l3, l4, l5, l6, l7, l8, l9, l10] f u) → ∃ s, encS 20 (kexMsg ⟨ck, plainM l1, [l2, l3, l4, l5, l6, l7, l8, l9, l10], decide (mark0 ∈ l1), decide (mark1 ∈ l1), decide (mark2 ∈ l1), decide (mark3 ∈ l1), (f == 1)⟩) = .ok s
   ·exact rparse16_n1 pl hpl ⟨h, hmk, h3⟩
   ·refine rparse16_n2 pl hpl ⟨h, hmk, fun ck l1 l2 l3 l4 l5 l6 l7 l8 l9 l10 f u hd s hs => h3 fun ck' l1' l2' l3' l4' l5' l6' l7' l8' l9' l10' f' u' hd' => ?_⟩
    rw [hd] at hd'
    injection hd' with _ h9
    obtain ⟨e1, e2, e3, _⟩ := kexFs_inj (by rfl) (by rfl) h9
    simp only [List.cons.injEq, and_true] at e2
    obtain ⟨rfl, rfl, rfl, rfl, rfl, rfl, rfl, rfl, rfl, rfl⟩ := e2
    subst e1 e3
    exact ⟨s, hs⟩
 ·by_cases h2 : ∃ n l, decS pl.data.toList = .ok n l
  ·obtain ⟨n, l, e⟩ := h2
   exact rparse16_b pl hpl ⟨n, l, e, fun h3 => h ⟨l, by rw [← h3]; exact e⟩⟩
  ·exact rparse16_a pl hpl (fun n l e => h2 ⟨n, l, e⟩)
end Go.Proofs.YtjaipdenahlheaaGreatDoor
