/-
  TransApart's walk where all of its tests pass. Conditions: few makes, fitting numbers, no zeros ahead.
-/
import Derived.Test.YtfjegckomjpkdaaGreatDoorSame
import Derived.Test.YtfjegckomjpkdaaGreatDoorPartsA
import Derived.Test.YtfjegckomjpkdaaGreatDoorFr
set_option linter.unusedVariables false
set_option linter.unusedSimpArgs false
namespace Go.Proofs.YtfjegckomjpkdaaGreatDoor
open Go.RowKit Go.ChangeShapes Go.WideShapes Go.Sort
theorem bool_of (p : Prop) : ∃ r : Bool, r = true ↔ p := by
  classical
  exact ⟨decide p, decide_eq_true_iff⟩
theorem w64_of {T : List Tm} {o : Option Tm} {n : Int} (h : Idn T o n) (hT : T.length ≤ 1000000000) : W64 n := by
  have := h.range
  unfold W64
  simp [Lit.wf, IntKind.min, IntKind.max, IntKind.signed, IntKind.bits]
  omega
theorem w32_of {n : Nat} (h : n < 4294967296) : W32 n := by
  unfold W32
  simp [Lit.wf, IntKind.min, IntKind.max, IntKind.signed, IntKind.bits]
  omega
theorem psm_raw {ms : List (Option Tm)} {x : RawP} (h : RawFit x) : PSm (partsR ms x) := ⟨h.v0, h.v1, h.v2, h.v3, w32_of h.w0, w32_of h.w1, w32_of h.w2, h.gp, h.gg⟩
/-- Behind the two hashes. -/
def Cut7 (w : World) (g B : Nat) (ms : List (Option Tm)) (x y : RawP) (fs : List (Nat × TypeId × Array Value)) (T0 : List Tm) (v13 v14 : Value) (wc : World) : Prop :=
  ∃ T S n m, v13 = .int .i64 n ∧ v14 = .int .i64 m ∧ Fr B g w T S fs wc ∧ Idn T (hashO (partsR ms x)) n ∧ Idn T (hashO (partsR ms y)) m ∧ T0 <+: T
theorem apart_iff {ms : List (Option Tm)} {x y : RawP} (hx : RawFit x) (hy : RawFit y) (hfx : fewR x = true) (hfy : fewR y = true) (hax : (zAhd x.gp || zAhd x.gg) = false) (hay : (zAhd y.gp || zAhd y.gg) = false) {t u : Tm} (h : hashO (partsR ms x) = some t) (h' : hashO (partsR ms y) = some u) :
    t = u ↔ sameP (partsR ms x) (partsR ms y) := by
  obtain ⟨a1, a2⟩ := Bool.or_eq_false_iff.1 hax
  obtain ⟨c1, c2⟩ := Bool.or_eq_false_iff.1 hay
  have e := fewR_iff.1 hfx
  have f := fewR_iff.1 hfy
  exact hash_apart h h' (fun _ => ⟨a1, a2⟩) (fun _ => ⟨c1, c2⟩) ⟨hx.w0, hx.w1, hx.w2⟩ ⟨hy.w0, hy.w1, hy.w2⟩ ⟨by show x.gp.size ≤ _; omega, by show x.gg.size ≤ _; omega⟩ ⟨by show y.gp.size ≤ _; omega, by show y.gg.size ≤ _; omega⟩
theorem same_iff {T : List Tm} (hT : AOK T) {p q : PartsP} {n0 n1 n2 n3 m0 m1 m2 m3 : Int} (i0 : Idn T p.key n0) (i1 : Idn T p.e n1) (i2 : Idn T p.f n2) (i3 : Idn T p.k n3) (j0 : Idn T q.key m0) (j1 : Idn T q.e m1) (j2 : Idn T q.f m2) (j3 : Idn T q.k m3) :
    sameP p q ↔ sameI p q n0 n1 n2 n3 m0 m1 m2 m3 := by
  unfold sameP sameI
  rw [idn_iff hT i0 j0, idn_iff hT i1 j1, idn_iff hT i2 j2, idn_iff hT i3 j3]
theorem same_fin {r e0 e6 e7 : Bool} {ms : List (Option Tm)} {x y : RawP} {n0 n1 n2 n3 k0 k1 k2 k3 : Int} (hr : r = true ↔ sameI (partsR ms x) (partsR ms y) n0 n1 n2 n3 k0 k1 k2 k3)
    (h0 : e0 = true ↔ (x.v0 = y.v0 ∧ x.v1 = y.v1 ∧ x.v2 = y.v2 ∧ x.v3 = y.v3)) (h6 : e6 = true ↔ ((x.w0 : Int) = y.w0 ∧ (x.w1 : Int) = y.w1 ∧ (x.w2 : Int) = y.w2)) (h7 : e7 = true ↔ (x.gp = y.gp ∧ x.gg = y.gg)) :
    r = (e0 && decide (n0 = k0) && decide (n1 = k1) && decide (n2 = k2) && decide (n3 = k3) && decide (x.asks = y.asks) && (!x.asks || (e6 && e7))) := by
  have i : ∀ a b : Nat, ((a : Int) = b) ↔ a = b := fun a b => by omega
  simp only [i] at h6
  have hr2 : r = true ↔ (x.v0 = y.v0 ∧ x.v1 = y.v1 ∧ x.v2 = y.v2 ∧ x.v3 = y.v3) ∧ n0 = k0 ∧ n1 = k1 ∧ n2 = k2 ∧ n3 = k3 ∧ x.asks = y.asks ∧ (x.asks = true → (x.w0 = y.w0 ∧ x.w1 = y.w1 ∧ x.w2 = y.w2) ∧ x.gp = y.gp ∧ x.gg = y.gg) := hr
  rw [Bool.eq_iff_iff, hr2, ← h0, ← h6, ← h7]
  simp only [Bool.and_eq_true, decide_eq_true_eq, Bool.or_eq_true, Bool.not_eq_true', and_assoc]
  cases x.asks <;> simp
section
variable {w : World}
set_option maxHeartbeats 16000000 in
set_option maxRecDepth 100000 in
theorem apart_any (hT : Tab w) {A : Option Addr} {c : Nat} {l : List Mk} (hl : Mks w.heap.size w A l) (hf : fewB l 15 = true) (hll : l.length ≤ 15) (hls : ∀ x ∈ l, x.s.size ≤ 1000000) (x y : RawP) (hx : RawFit x) (hy : RawFit y) (hfx : fewR x = true) (hfy : fewR y = true)
    (hax : (zAhd x.gp || zAhd x.gg) = false) (hay : (zAhd y.gp || zAhd y.gg) = false) :
    Calls Tryz.prog 9 #[.slice A l.length c, rawV x, rawV y] w (fun e w' => e = .returned (.bool true) ∧ Below w.heap.size w w') := by
  have HF := hide (fun (W : World) (hb : Below w.heap.size w W) => few_any (c := c) (hl.outs (Outs.of_below (R := fun _ => False) hb) (fun i h => h.elim)) (by omega) 15)
  have HRx := hide (fun W => rawFew_any x hx W)
  have HRy := hide (fun W => rawFew_any y hy W)
  have HAx := hide (fun W => ahead_any x.gp x.gg W hx.gp hx.gg)
  have HAy := hide (fun W => ahead_any y.gp y.gg W hy.gp hy.gg)
  have HT := hide hT
  have HL := hide hl
  have Hls := hide hls
  have Hx := hide hx
  have Hy := hide hy
  have Hi := hide (fun t u => apart_iff (ms := makes l) (t := t) (u := u) hx hy hfx hfy hax hay)
  rw [hf] at HF
  rw [hfx] at HRx
  rw [hfy] at HRy
  rw [hax] at HAx
  rw [hay] at HAy
  clear hT hl hls hx hy hf
  have Hfx := hide hfx
  have Hfy := hide hfy
  clear hfx hfy hax hay
  unfold rawV at *
  go_enter Tryz.func9, Tryz.ntmps9
  go_upto_region 1 with fail
  obtain ⟨W0, hW⟩ : ∃ W, W = ((w.alloc (.cells #[.string x.v0, .string x.v1, .string x.v2, .string x.v3, .int .i64 x.t0, .int .i64 x.t1, .int .i64 x.t2, .int .i64 x.t3, .bool x.asks, .int .u32 x.w0, .int .u32 x.w1, .int .u32 x.w2, .string x.gp, .string x.gg] 82)).alloc (.cells #[.string y.v0, .string y.v1, .string y.v2, .string y.v3, .int .i64 y.t0, .int .i64 y.t1, .int .i64 y.t2, .int .i64 y.t3, .bool y.asks, .int .u32 y.w0, .int .u32 y.w1, .int .u32 y.w2, .string y.gp, .string y.gg] 82)) := ⟨_, rfl⟩
  rw [← hW]
  have hb0 : Below w.heap.size w W0 := by rw [hW]; (repeat (first | exact Below.refl _ _ | refine below_drewN ?_ _ | refine Below.drew ?_ | refine Below.alloc ?_ (by first | omega | (simp; done) | (simp; omega)) _ | refine Below.setCell ?_ (by first | omega | (simp; done) | (simp; omega)) _ | refine bel_alloc ?_ _ | refine bel_trans ?_ (by assumption) | refine Below.trans ?_ (Below.mono (by assumption) (by first | omega | (simp; done) | (simp; omega)))))
  have hz0 : W0.heap.size = w.heap.size + 2 := by rw [hW]; simp
  have q4 : Blk W0 w.heap.size 82 #[.string x.v0, .string x.v1, .string x.v2, .string x.v3, .int .i64 x.t0, .int .i64 x.t1, .int .i64 x.t2, .int .i64 x.t3, .bool x.asks, .int .u32 x.w0, .int .u32 x.w1, .int .u32 x.w2, .string x.gp, .string x.gg] := by rw [hW]; exact blk_at rfl (by (repeat (first | exact Below.refl _ _ | refine below_drewN ?_ _ | refine Below.drew ?_ | refine Below.alloc ?_ (by first | omega | (simp; done) | (simp; omega)) _ | refine Below.setCell ?_ (by first | omega | (simp; done) | (simp; omega)) _ | refine bel_alloc ?_ _ | refine bel_trans ?_ (by assumption) | refine Below.trans ?_ (Below.mono (by assumption) (by first | omega | (simp; done) | (simp; omega))))))
  have q5 : Blk W0 (w.heap.size + 1) 82 #[.string y.v0, .string y.v1, .string y.v2, .string y.v3, .int .i64 y.t0, .int .i64 y.t1, .int .i64 y.t2, .int .i64 y.t3, .bool y.asks, .int .u32 y.w0, .int .u32 y.w1, .int .u32 y.w2, .string y.gp, .string y.gg] := by rw [hW]; exact blk_at (W := w.alloc (.cells #[.string x.v0, .string x.v1, .string x.v2, .string x.v3, .int .i64 x.t0, .int .i64 x.t1, .int .i64 x.t2, .int .i64 x.t3, .bool x.asks, .int .u32 x.w0, .int .u32 x.w1, .int .u32 x.w2, .string x.gp, .string x.gg] 82)) (by simp) (by (repeat (first | exact Below.refl _ _ | refine below_drewN ?_ _ | refine Below.drew ?_ | refine Below.alloc ?_ (by first | omega | (simp; done) | (simp; omega)) _ | refine Below.setCell ?_ (by first | omega | (simp; done) | (simp; omega)) _ | refine bel_alloc ?_ _ | refine bel_trans ?_ (by assumption) | refine Below.trans ?_ (Below.mono (by assumption) (by first | omega | (simp; done) | (simp; omega))))))
  clear hW
  obtain ⟨a0, a1, a2, a3, a4, a5, a6, a7, a8, a9, a10, a11, a12, a13⟩ := cells14 q4
  have hz0 : w.heap.size + 2 ≤ W0.heap.size := by omega
  go_upto_region 3 with (first
    | (go_at_call 11; refine (HF.out _ hb0).mono ?_; rintro e w1 ⟨rfl, rfl⟩)
    | (go_at_call 40; with_reducible refine (HRx.out _).mono ?_; rintro e w2 ⟨rfl, hb2⟩; replace q4 := q4.below hb2 q4.lt; replace q5 := q5.below hb2 q5.lt; replace hz0 := Nat.le_trans hz0 hb2.size; replace hb0 := hb0.trans (hb2.mono hb0.size); clear a0 a1 a2 a3 a4 a5 a6 a7 a8 a9 a10 a11 a12 a13; obtain ⟨b0, b1, b2, b3, b4, b5, b6, b7, b8, b9, b10, b11, b12, b13⟩ := cells14 q5)
    | (go_at_call 40; with_reducible refine (HRy.out _).mono ?_; rintro e w3 ⟨rfl, hb3⟩; replace q4 := q4.below hb3 q4.lt; replace q5 := q5.below hb3 q5.lt; replace hz0 := Nat.le_trans hz0 hb3.size; replace hb0 := hb0.trans (hb3.mono hb0.size); clear b0 b1 b2 b3 b4 b5 b6 b7 b8 b9 b10 b11 b12 b13; obtain ⟨a0, a1, a2, a3, a4, a5, a6, a7, a8, a9, a10, a11, a12, a13⟩ := cells14 q4)
    | (go_at_call 41; with_reducible refine (HAx.out _).mono ?_; rintro e w4 ⟨rfl, hb4⟩; replace q4 := q4.below hb4 q4.lt; replace q5 := q5.below hb4 q5.lt; replace hz0 := Nat.le_trans hz0 hb4.size; replace hb0 := hb0.trans (hb4.mono hb0.size); clear a0 a1 a2 a3 a4 a5 a6 a7 a8 a9 a10 a11 a12 a13; obtain ⟨b0, b1, b2, b3, b4, b5, b6, b7, b8, b9, b10, b11, b12, b13⟩ := cells14 q5)
    | (go_at_call 41; with_reducible refine (HAy.out _).mono ?_; rintro e w5 ⟨rfl, hb5⟩; replace q4 := q4.below hb5 q4.lt; replace q5 := q5.below hb5 q5.lt; replace hz0 := Nat.le_trans hz0 hb5.size; replace hb0 := hb0.trans (hb5.mono hb0.size); clear b0 b1 b2 b3 b4 b5 b6 b7 b8 b9 b10 b11 b12 b13)
    | fail)
  have HN := hide (new_any w5)
  go_upto_region 4 with (first
    | (go_at_call 13; refine HN.out.mono ?_; rintro e w6 ⟨g, S, rfl, hA6, hb6⟩)
    | fail)
  have hU6 : Use w5.heap.size w6 g [] S := use_new (HT.out.below hb0) hA6 hb6
  have hF : Fr w5.heap.size g w [] S [(w.heap.size, 82, #[.string x.v0, .string x.v1, .string x.v2, .string x.v3, .int .i64 x.t0, .int .i64 x.t1, .int .i64 x.t2, .int .i64 x.t3, .bool x.asks, .int .u32 x.w0, .int .u32 x.w1, .int .u32 x.w2, .string x.gp, .string x.gg]), ((w.heap.size + 1), 82, #[.string y.v0, .string y.v1, .string y.v2, .string y.v3, .int .i64 y.t0, .int .i64 y.t1, .int .i64 y.t2, .int .i64 y.t3, .bool y.asks, .int .u32 y.w0, .int .u32 y.w1, .int .u32 y.w2, .string y.gp, .string y.gg])] w6 := ⟨hb0.trans (hb6.mono hb0.size), hU6, hb0.size, fun z hz => by
    have hsB := hA6.sB
    simp only [List.mem_cons, List.not_mem_nil, or_false] at hz
    rcases hz with rfl | rfl
    · exact ⟨q4.below hb6 q4.lt, fun h => by have := hsB _ h; omega⟩
    · exact ⟨q5.below hb6 q5.lt, fun h => by have := hsB _ h; omega⟩⟩
  have hwB := hF.wB
  clear hA6 hb6 hU6 HN q4 q5 hb2 hb3 hb4 hb5
  generalize w5.heap.size = B at hF hwB
  have HM := hide (makes_any (c := c) hF.use ((HL.out.outs (Outs.of_below (R := fun _ => False) hF.bel) (fun i h => h.elim)).mono hwB) (by omega) Hls.out (by simp; omega))
  go_upto_region 5 with (first
    | (go_at_call 14; refine HM.out.mono ?_; rintro e w7 ⟨T4, S4, v1, v2, rfl, hmd, hpre4, hT4, hA4, hG4⟩; obtain ⟨A1, c1, hv1⟩ := own_sl hmd.ids.choose_spec.1; obtain ⟨A2, c2, hv2⟩ := own_sl hmd.txs; subst hv1 hv2)
    | fail)
  have hT5 : T4.length ≤ 15 := by simp at hT4; omega
  have hF7 := (hF.grown hG4 hA4 (by omega)).new 31 #[.slice A1 (makes l).length c1, .slice A2 (makes l).length c2]
  have hM := hmd.md.below (bel_new (.cells #[.slice A1 (makes l).length c1, .slice A2 (makes l).length c2] 31))
  have hlm : (makes l).length ≤ 1000000000 := by rw [makes_len]; omega
  clear hF hmd hpre4 hT4 hA4 hG4 HM HF HRx HRy HAx HAy
  obtain ⟨b8, hb8⟩ : ∃ b8, b8 = w7.heap.size := ⟨_, rfl⟩
  rw [← hb8] at hF7 ⊢
  generalize hW8 : w7.alloc (.cells #[.slice A1 (makes l).length c1, .slice A2 (makes l).length c2] 31) = W8 at hF7 hM ⊢
  clear hW8 hb8
  have q4 := hF7.blk (b := w.heap.size) (t := 82) (cs := #[.string x.v0, .string x.v1, .string x.v2, .string x.v3, .int .i64 x.t0, .int .i64 x.t1, .int .i64 x.t2, .int .i64 x.t3, .bool x.asks, .int .u32 x.w0, .int .u32 x.w1, .int .u32 x.w2, .string x.gp, .string x.gg]) (by simp)
  have q5 := hF7.blk (b := (w.heap.size + 1)) (t := 82) (cs := #[.string y.v0, .string y.v1, .string y.v2, .string y.v3, .int .i64 y.t0, .int .i64 y.t1, .int .i64 y.t2, .int .i64 y.t3, .bool y.asks, .int .u32 y.w0, .int .u32 y.w1, .int .u32 y.w2, .string y.gp, .string y.gg]) (by simp)
  have q8 := hF7.blk (b := b8) (t := 31) (cs := #[.slice A1 (makes l).length c1, .slice A2 (makes l).length c2]) (by simp)
  obtain ⟨a0, a1, a2, a3, a4, a5, a6, a7, a8, a9, a10, a11, a12, a13⟩ := cells14 q4
  have m0 : W8.cell? ⟨b8, 0, none⟩ = some (.slice A1 (makes l).length c1) := q8.cell 0
  have m1 : W8.cell? ⟨b8, 1, none⟩ = some (.slice A2 (makes l).length c2) := q8.cell 1
  have HPx := hide (parts_any2 hM x Hx.out hlm)
  go_upto_region 6 with (first
    | (go_at_call 43; refine HPx.out.mono ?_; rintro e w9 ⟨n0, n1, n2, n3, rfl, hi0, hi1, hi2, hi3, hb9⟩)
    | fail)
  have hM9 := hM.below hb9
  have hF9 := ((hF7.below hb9).new 86 #[.string x.v0, .string x.v1, .string x.v2, .string x.v3, .int .i64 n0, .bool x.asks, .int .u32 x.w0, .int .u32 x.w1, .int .u32 x.w2, .string x.gp, .string x.gg, .int .i64 n1, .int .i64 n2, .int .i64 n3]).new 88 #[.string x.v0, .string x.v1, .string x.v2, .string x.v3, .string (bs (txt (pickO (makes l) x.t0))), .bool x.asks, .int .i64 x.w0, .int .i64 x.w1, .int .i64 x.w2, .string x.gp, .string x.gg, .string (bs (txt (pickO (makes l) x.t1))), .string (bs (txt (pickO (makes l) x.t2))), .string (bs (txt (pickO (makes l) x.t3)))]
  have hM10 := (hM9.below (bel_new (.cells #[.string x.v0, .string x.v1, .string x.v2, .string x.v3, .int .i64 n0, .bool x.asks, .int .u32 x.w0, .int .u32 x.w1, .int .u32 x.w2, .string x.gp, .string x.gg, .int .i64 n1, .int .i64 n2, .int .i64 n3] 86))).below (bel_new (.cells #[.string x.v0, .string x.v1, .string x.v2, .string x.v3, .string (bs (txt (pickO (makes l) x.t0))), .bool x.asks, .int .i64 x.w0, .int .i64 x.w1, .int .i64 x.w2, .string x.gp, .string x.gg, .string (bs (txt (pickO (makes l) x.t1))), .string (bs (txt (pickO (makes l) x.t2))), .string (bs (txt (pickO (makes l) x.t3)))] 88))
  clear a0 a1 a2 a3 a4 a5 a6 a7 a8 a9 a10 a11 a12 a13
  clear hF7 hM hM9 HPx q4 q5 q8 m0 m1
  obtain ⟨b9, hb9'⟩ : ∃ b9, b9 = w9.heap.size := ⟨_, rfl⟩
  rw [← hb9'] at hF9 ⊢
  generalize hW10 : (w9.alloc (.cells #[.string x.v0, .string x.v1, .string x.v2, .string x.v3, .int .i64 n0, .bool x.asks, .int .u32 x.w0, .int .u32 x.w1, .int .u32 x.w2, .string x.gp, .string x.gg, .int .i64 n1, .int .i64 n2, .int .i64 n3] 86)).alloc (.cells #[.string x.v0, .string x.v1, .string x.v2, .string x.v3, .string (bs (txt (pickO (makes l) x.t0))), .bool x.asks, .int .i64 x.w0, .int .i64 x.w1, .int .i64 x.w2, .string x.gp, .string x.gg, .string (bs (txt (pickO (makes l) x.t1))), .string (bs (txt (pickO (makes l) x.t2))), .string (bs (txt (pickO (makes l) x.t3)))] 88) = W10 at hF9 hM10 ⊢
  clear hW10 hb9 hb9'
  have q4 := hF9.blk (b := w.heap.size) (t := 82) (cs := #[.string x.v0, .string x.v1, .string x.v2, .string x.v3, .int .i64 x.t0, .int .i64 x.t1, .int .i64 x.t2, .int .i64 x.t3, .bool x.asks, .int .u32 x.w0, .int .u32 x.w1, .int .u32 x.w2, .string x.gp, .string x.gg]) (by simp)
  have q5 := hF9.blk (b := (w.heap.size + 1)) (t := 82) (cs := #[.string y.v0, .string y.v1, .string y.v2, .string y.v3, .int .i64 y.t0, .int .i64 y.t1, .int .i64 y.t2, .int .i64 y.t3, .bool y.asks, .int .u32 y.w0, .int .u32 y.w1, .int .u32 y.w2, .string y.gp, .string y.gg]) (by simp)
  have q8 := hF9.blk (b := b8) (t := 31) (cs := #[.slice A1 (makes l).length c1, .slice A2 (makes l).length c2]) (by simp)
  obtain ⟨a0, a1, a2, a3, a4, a5, a6, a7, a8, a9, a10, a11, a12, a13⟩ := cells14 q5
  have m0 : W10.cell? ⟨b8, 0, none⟩ = some (.slice A1 (makes l).length c1) := q8.cell 0
  have m1 : W10.cell? ⟨b8, 1, none⟩ = some (.slice A2 (makes l).length c2) := q8.cell 1
  have HPy := hide (parts_any2 hM10 y Hy.out hlm)
  go_upto_region 7 with (first
    | (go_at_call 43; refine HPy.out.mono ?_; rintro e w11 ⟨k0, k1, k2, k3, rfl, hj0, hj1, hj2, hj3, hb11⟩)
    | fail)
  have hF11a := ((hF9.below hb11).new 86 #[.string y.v0, .string y.v1, .string y.v2, .string y.v3, .int .i64 k0, .bool y.asks, .int .u32 y.w0, .int .u32 y.w1, .int .u32 y.w2, .string y.gp, .string y.gg, .int .i64 k1, .int .i64 k2, .int .i64 k3]).new 88 #[.string y.v0, .string y.v1, .string y.v2, .string y.v3, .string (bs (txt (pickO (makes l) y.t0))), .bool y.asks, .int .i64 y.w0, .int .i64 y.w1, .int .i64 y.w2, .string y.gp, .string y.gg, .string (bs (txt (pickO (makes l) y.t1))), .string (bs (txt (pickO (makes l) y.t2))), .string (bs (txt (pickO (makes l) y.t3)))]
  obtain ⟨b11, hb11'⟩ : ∃ b11, b11 = w11.heap.size := ⟨_, rfl⟩
  rw [← hb11'] at hF11a ⊢
  have hF11 : Fr B g w T4 S4 [(w.heap.size, 82, #[.string x.v0, .string x.v1, .string x.v2, .string x.v3, .int .i64 x.t0, .int .i64 x.t1, .int .i64 x.t2, .int .i64 x.t3, .bool x.asks, .int .u32 x.w0, .int .u32 x.w1, .int .u32 x.w2, .string x.gp, .string x.gg]), ((w.heap.size + 1), 82, #[.string y.v0, .string y.v1, .string y.v2, .string y.v3, .int .i64 y.t0, .int .i64 y.t1, .int .i64 y.t2, .int .i64 y.t3, .bool y.asks, .int .u32 y.w0, .int .u32 y.w1, .int .u32 y.w2, .string y.gp, .string y.gg]), (b9, 86, #[.string x.v0, .string x.v1, .string x.v2, .string x.v3, .int .i64 n0, .bool x.asks, .int .u32 x.w0, .int .u32 x.w1, .int .u32 x.w2, .string x.gp, .string x.gg, .int .i64 n1, .int .i64 n2, .int .i64 n3]), (b11, 86, #[.string y.v0, .string y.v1, .string y.v2, .string y.v3, .int .i64 k0, .bool y.asks, .int .u32 y.w0, .int .u32 y.w1, .int .u32 y.w2, .string y.gp, .string y.gg, .int .i64 k1, .int .i64 k2, .int .i64 k3])] ((w11.alloc (.cells #[.string y.v0, .string y.v1, .string y.v2, .string y.v3, .int .i64 k0, .bool y.asks, .int .u32 y.w0, .int .u32 y.w1, .int .u32 y.w2, .string y.gp, .string y.gg, .int .i64 k1, .int .i64 k2, .int .i64 k3] 86)).alloc (.cells #[.string y.v0, .string y.v1, .string y.v2, .string y.v3, .string (bs (txt (pickO (makes l) y.t0))), .bool y.asks, .int .i64 y.w0, .int .i64 y.w1, .int .i64 y.w2, .string y.gp, .string y.gg, .string (bs (txt (pickO (makes l) y.t1))), .string (bs (txt (pickO (makes l) y.t2))), .string (bs (txt (pickO (makes l) y.t3)))] 88)) := hF11a.drop (fun z hz => by
    simp only [List.mem_cons, List.not_mem_nil, or_false] at hz
    rcases hz with rfl | rfl | rfl | rfl
    · simp
    · simp
    · simp
    · simp)
  clear a0 a1 a2 a3 a4 a5 a6 a7 a8 a9 a10 a11 a12 a13
  clear hF9 hM10 HPy q5 q8 m0 m1 hF11a
  generalize hW12 : (w11.alloc (.cells #[.string y.v0, .string y.v1, .string y.v2, .string y.v3, .int .i64 k0, .bool y.asks, .int .u32 y.w0, .int .u32 y.w1, .int .u32 y.w2, .string y.gp, .string y.gg, .int .i64 k1, .int .i64 k2, .int .i64 k3] 86)).alloc (.cells #[.string y.v0, .string y.v1, .string y.v2, .string y.v3, .string (bs (txt (pickO (makes l) y.t0))), .bool y.asks, .int .i64 y.w0, .int .i64 y.w1, .int .i64 y.w2, .string y.gp, .string y.gg, .string (bs (txt (pickO (makes l) y.t1))), .string (bs (txt (pickO (makes l) y.t2))), .string (bs (txt (pickO (makes l) y.t3)))] 88) = W12 at hF11 ⊢
  clear hW12 hb11 hb11'
  have hfx := fitR (ms := makes l) Hx.out Hfx.out
  have hfy := fitR (ms := makes l) Hy.out Hfy.out
  have HHx := hide (fun (W : World) (T' : List Tm) (S' : Nat → Prop) (hU : Use B W g T' S') (hp : T4 <+: T') (hl' : T'.length ≤ 1000) => (partsV_eq (makes l) x n0 n1 n2 n3 ▸ hash_any hU (partsR (makes l) x) hfx (hi0.pre hp) (hi1.pre hp) (hi2.pre hp) (hi3.pre hp) (by omega) : Calls Tryz.prog 44 #[.pointer (some ⟨g, 0, none⟩), .agg #[.string x.v0, .string x.v1, .string x.v2, .string x.v3, .int .i64 n0, .bool x.asks, .int .u32 x.w0, .int .u32 x.w1, .int .u32 x.w2, .string x.gp, .string x.gg, .int .i64 n1, .int .i64 n2, .int .i64 n3]] W (DoneL B W g T' S' (hashO (partsR (makes l) x)) 11)))
  have HHy := hide (fun (W : World) (T' : List Tm) (S' : Nat → Prop) (hU : Use B W g T' S') (hp : T4 <+: T') (hl' : T'.length ≤ 1000) => (partsV_eq (makes l) y k0 k1 k2 k3 ▸ hash_any hU (partsR (makes l) y) hfy (hj0.pre hp) (hj1.pre hp) (hj2.pre hp) (hj3.pre hp) (by omega) : Calls Tryz.prog 44 #[.pointer (some ⟨g, 0, none⟩), .agg #[.string y.v0, .string y.v1, .string y.v2, .string y.v3, .int .i64 k0, .bool y.asks, .int .u32 y.w0, .int .u32 y.w1, .int .u32 y.w2, .string y.gp, .string y.gg, .int .i64 k1, .int .i64 k2, .int .i64 k3]] W (DoneL B W g T' S' (hashO (partsR (makes l) y)) 11)))
  have HF := hide hF11
  clear hF11 hfx hfy
  go_cut [13, 14] (fun v13 v14 wc => Cut7 w g B (makes l) x y [(w.heap.size, 82, #[.string x.v0, .string x.v1, .string x.v2, .string x.v3, .int .i64 x.t0, .int .i64 x.t1, .int .i64 x.t2, .int .i64 x.t3, .bool x.asks, .int .u32 x.w0, .int .u32 x.w1, .int .u32 x.w2, .string x.gp, .string x.gg]), ((w.heap.size + 1), 82, #[.string y.v0, .string y.v1, .string y.v2, .string y.v3, .int .i64 y.t0, .int .i64 y.t1, .int .i64 y.t2, .int .i64 y.t3, .bool y.asks, .int .u32 y.w0, .int .u32 y.w1, .int .u32 y.w2, .string y.gp, .string y.gg]), (b9, 86, #[.string x.v0, .string x.v1, .string x.v2, .string x.v3, .int .i64 n0, .bool x.asks, .int .u32 x.w0, .int .u32 x.w1, .int .u32 x.w2, .string x.gp, .string x.gg, .int .i64 n1, .int .i64 n2, .int .i64 n3]), (b11, 86, #[.string y.v0, .string y.v1, .string y.v2, .string y.v3, .int .i64 k0, .bool y.asks, .int .u32 y.w0, .int .u32 y.w1, .int .u32 y.w2, .string y.gp, .string y.gg, .int .i64 k1, .int .i64 k2, .int .i64 k3])] T4 v13 v14 wc)
  case first =>
    as_aux_lemma =>
      have hdr : Below W12.heap.size W12 W12.drew := (Below.refl _ _).drew
      have hFr := HF.out.below hdr
      have hpc : T4 <+: T4 := List.prefix_refl _
      have hlc : T4.length ≤ 40 := by omega
      have q9 := hFr.blk (b := b9) (t := 86) (cs := #[.string x.v0, .string x.v1, .string x.v2, .string x.v3, .int .i64 n0, .bool x.asks, .int .u32 x.w0, .int .u32 x.w1, .int .u32 x.w2, .string x.gp, .string x.gg, .int .i64 n1, .int .i64 n2, .int .i64 n3]) (by simp)
      have q11 := hFr.blk (b := b11) (t := 86) (cs := #[.string y.v0, .string y.v1, .string y.v2, .string y.v3, .int .i64 k0, .bool y.asks, .int .u32 y.w0, .int .u32 y.w1, .int .u32 y.w2, .string y.gp, .string y.gg, .int .i64 k1, .int .i64 k2, .int .i64 k3]) (by simp)
      clear HF
      go_region_held3 (fun W => (W.cell? ⟨b9, 0, none⟩ = some (.string x.v0) ∧ W.cell? ⟨b9, 1, none⟩ = some (.string x.v1) ∧ W.cell? ⟨b9, 2, none⟩ = some (.string x.v2) ∧ W.cell? ⟨b9, 3, none⟩ = some (.string x.v3) ∧ W.cell? ⟨b9, 4, none⟩ = some (.int .i64 n0) ∧ W.cell? ⟨b9, 5, none⟩ = some (.bool x.asks) ∧ W.cell? ⟨b9, 6, none⟩ = some (.int .u32 x.w0) ∧ W.cell? ⟨b9, 7, none⟩ = some (.int .u32 x.w1) ∧ W.cell? ⟨b9, 8, none⟩ = some (.int .u32 x.w2) ∧ W.cell? ⟨b9, 9, none⟩ = some (.string x.gp) ∧ W.cell? ⟨b9, 10, none⟩ = some (.string x.gg) ∧ W.cell? ⟨b9, 11, none⟩ = some (.int .i64 n1) ∧ W.cell? ⟨b9, 12, none⟩ = some (.int .i64 n2) ∧ W.cell? ⟨b9, 13, none⟩ = some (.int .i64 n3)) ∧ (W.cell? ⟨b11, 0, none⟩ = some (.string y.v0) ∧ W.cell? ⟨b11, 1, none⟩ = some (.string y.v1) ∧ W.cell? ⟨b11, 2, none⟩ = some (.string y.v2) ∧ W.cell? ⟨b11, 3, none⟩ = some (.string y.v3) ∧ W.cell? ⟨b11, 4, none⟩ = some (.int .i64 k0) ∧ W.cell? ⟨b11, 5, none⟩ = some (.bool y.asks) ∧ W.cell? ⟨b11, 6, none⟩ = some (.int .u32 y.w0) ∧ W.cell? ⟨b11, 7, none⟩ = some (.int .u32 y.w1) ∧ W.cell? ⟨b11, 8, none⟩ = some (.int .u32 y.w2) ∧ W.cell? ⟨b11, 9, none⟩ = some (.string y.gp) ∧ W.cell? ⟨b11, 10, none⟩ = some (.string y.gg) ∧ W.cell? ⟨b11, 11, none⟩ = some (.int .i64 k1) ∧ W.cell? ⟨b11, 12, none⟩ = some (.int .i64 k2) ∧ W.cell? ⟨b11, 13, none⟩ = some (.int .i64 k3)))
        (exact ⟨cells14 q9, cells14 q11⟩)
        (first
          | (go_at_call 44; (with_reducible refine (HHx.out _ _ _ hFr.use hpc (by omega)).mono ?_); (rintro e x1 ⟨T7, m7, S7, rfl, hi7, hp7, hl7, hA7, hG7⟩); (have hFr2 := hFr.grown hG7 hA7 (by omega)); clear hFr; (have hFr := hFr2); clear hFr2; (replace hpc := hpc.trans hp7); (replace hlc := Nat.le_trans hl7 (Nat.add_le_add_right hlc 11)); (replace q9 := hFr.blk (b := b9) (t := 86) (cs := #[.string x.v0, .string x.v1, .string x.v2, .string x.v3, .int .i64 n0, .bool x.asks, .int .u32 x.w0, .int .u32 x.w1, .int .u32 x.w2, .string x.gp, .string x.gg, .int .i64 n1, .int .i64 n2, .int .i64 n3]) (by simp)); (replace q11 := hFr.blk (b := b11) (t := 86) (cs := #[.string y.v0, .string y.v1, .string y.v2, .string y.v3, .int .i64 k0, .bool y.asks, .int .u32 y.w0, .int .u32 y.w1, .int .u32 y.w2, .string y.gp, .string y.gg, .int .i64 k1, .int .i64 k2, .int .i64 k3]) (by simp)); try (have hi8 := hi8.pre hp7))
          | (go_at_call 44; (with_reducible refine (HHy.out _ _ _ hFr.use hpc (by omega)).mono ?_); (rintro e x2 ⟨T8, m8, S8, rfl, hi8, hp8, hl8, hA8, hG8⟩); (have hFr2 := hFr.grown hG8 hA8 (by omega)); clear hFr; (have hFr := hFr2); clear hFr2; (replace hpc := hpc.trans hp8); (replace hlc := Nat.le_trans hl8 (Nat.add_le_add_right hlc 11)); (replace q9 := hFr.blk (b := b9) (t := 86) (cs := #[.string x.v0, .string x.v1, .string x.v2, .string x.v3, .int .i64 n0, .bool x.asks, .int .u32 x.w0, .int .u32 x.w1, .int .u32 x.w2, .string x.gp, .string x.gg, .int .i64 n1, .int .i64 n2, .int .i64 n3]) (by simp)); (replace q11 := hFr.blk (b := b11) (t := 86) (cs := #[.string y.v0, .string y.v1, .string y.v2, .string y.v3, .int .i64 k0, .bool y.asks, .int .u32 y.w0, .int .u32 y.w1, .int .u32 y.w2, .string y.gp, .string y.gg, .int .i64 k1, .int .i64 k2, .int .i64 k3]) (by simp)); try (have hi7 := hi7.pre hp8))
          | fail)
      all_goals go_wp2_with fail
      all_goals go_meet
      all_goals exact ⟨_, _, _, _, rfl, rfl, hFr, hi7, hi8, hpc⟩
  case rest =>
    obtain ⟨wx, rfl⟩ : ∃ wx : World, wx = wc := ⟨wc, rfl⟩
    obtain ⟨T, S7, n, m, rfl, rfl, hFc, hn, hm, hpre⟩ := hcut
    have HAW := hide (fun (W : World) (hb : Below w.heap.size w W) => awake20_any (HT.out.below hb))
    have hbw := hFc.bel
    clear HF HHx HHy
    have hTl : AOK T := hFc.use.ar.ok
    by_cases hz1 : hashO (partsR (makes l) x) = none
    · obtain rfl : n = -1 := hn.2 hz1
      clear hFc
      go_wp2_with (go_at_call 42; refine (HAW.out _ hbw).mono ?_; rintro e x3 ⟨rfl, hb3⟩)
      go_ret
      exact ⟨rfl, hbw.trans (hb3.mono hbw.size)⟩
    · obtain ⟨t, ht⟩ := Option.ne_none_iff_exists'.1 hz1
      have hn1 : ¬ n = -1 := fun h => hz1 (hn.none_iff.1 h)
      by_cases hz2 : hashO (partsR (makes l) y) = none
      · obtain rfl : m = -1 := hm.2 hz2
        clear hFc
        go_wp2_with (go_at_call 42; refine (HAW.out _ hbw).mono ?_; rintro e x3 ⟨rfl, hb3⟩)
        go_ret
        exact ⟨rfl, hbw.trans (hb3.mono hbw.size)⟩
      · obtain ⟨u, hu⟩ := Option.ne_none_iff_exists'.1 hz2
        have hm1 : ¬ m = -1 := fun h => hz2 (hm.none_iff.1 h)
        have hsame := same_iff hTl (p := partsR (makes l) x) (q := partsR (makes l) y) (hi0.pre hpre) (hi1.pre hpre) (hi2.pre hpre) (hi3.pre hpre) (hj0.pre hpre) (hj1.pre hpre) (hj2.pre hpre) (hj3.pre hpre)
        have hnm : n = m ↔ sameI (partsR (makes l) x) (partsR (makes l) y) n0 n1 n2 n3 k0 k1 k2 k3 := by
          rw [idn_iff hTl hn hm, ← hsame, ← Hi.out t u ht hu, ht, hu, Option.some.injEq]
        obtain ⟨r, hr⟩ : ∃ r : Bool, r = true ↔ sameI (partsR (makes l) x) (partsR (makes l) y) n0 n1 n2 n3 k0 k1 k2 k3 := bool_of _
        obtain ⟨e0, he0⟩ : ∃ r : Bool, r = true ↔ (x.v0 = y.v0 ∧ x.v1 = y.v1 ∧ x.v2 = y.v2 ∧ x.v3 = y.v3) := bool_of _
        obtain ⟨e6, he6⟩ : ∃ r : Bool, r = true ↔ ((x.w0 : Int) = y.w0 ∧ (x.w1 : Int) = y.w1 ∧ (x.w2 : Int) = y.w2) := bool_of _
        obtain ⟨e7, he7⟩ : ∃ r : Bool, r = true ↔ (x.gp = y.gp ∧ x.gg = y.gg) := bool_of _
        have EV := fun W => eqV Hx.out.v0 Hx.out.v1 Hx.out.v2 Hx.out.v3 Hy.out.v0 Hy.out.v1 Hy.out.v2 Hy.out.v3 he0 W
        have EW := fun W => eqW (w32_of Hx.out.w0) (w32_of Hx.out.w1) (w32_of Hx.out.w2) (w32_of Hy.out.w0) (w32_of Hy.out.w1) (w32_of Hy.out.w2) he6 W
        have EG := fun W => eqG Hx.out.gp Hx.out.gg Hy.out.gp Hy.out.gg he7 W
        have HS := hide (fun W => (partsV_eq (makes l) x n0 n1 n2 n3 ▸ partsV_eq (makes l) y k0 k1 k2 k3 ▸ same_any (partsR (makes l) x) (partsR (makes l) y) n0 n1 n2 n3 k0 k1 k2 k3 (psm_raw Hx.out) (psm_raw Hy.out) (w64_of hi0 (by omega)) (w64_of hi1 (by omega)) (w64_of hi2 (by omega)) (w64_of hi3 (by omega)) (w64_of hj0 (by omega)) (w64_of hj1 (by omega)) (w64_of hj2 (by omega)) (w64_of hj3 (by omega)) hr W : Calls Tryz.prog 45 #[.agg #[.string x.v0, .string x.v1, .string x.v2, .string x.v3, .int .i64 n0, .bool x.asks, .int .u32 x.w0, .int .u32 x.w1, .int .u32 x.w2, .string x.gp, .string x.gg, .int .i64 n1, .int .i64 n2, .int .i64 n3], .agg #[.string y.v0, .string y.v1, .string y.v2, .string y.v3, .int .i64 k0, .bool y.asks, .int .u32 y.w0, .int .u32 y.w1, .int .u32 y.w2, .string y.gp, .string y.gg, .int .i64 k1, .int .i64 k2, .int .i64 k3]] W (fun e w' => e = .returned (.bool r) ∧ Below W.heap.size W w')))
        have He0 := hide he0
        have He6 := hide he6
        have He7 := hide he7
        have Hr := hide hr
        have Hnm := hide (hnm.trans hr.symm)
        have q4 := hFc.blk (b := w.heap.size) (t := 82) (cs := #[.string x.v0, .string x.v1, .string x.v2, .string x.v3, .int .i64 x.t0, .int .i64 x.t1, .int .i64 x.t2, .int .i64 x.t3, .bool x.asks, .int .u32 x.w0, .int .u32 x.w1, .int .u32 x.w2, .string x.gp, .string x.gg]) (by simp)
        have q5 := hFc.blk (b := (w.heap.size + 1)) (t := 82) (cs := #[.string y.v0, .string y.v1, .string y.v2, .string y.v3, .int .i64 y.t0, .int .i64 y.t1, .int .i64 y.t2, .int .i64 y.t3, .bool y.asks, .int .u32 y.w0, .int .u32 y.w1, .int .u32 y.w2, .string y.gp, .string y.gg]) (by simp)
        have q9 := hFc.blk (b := b9) (t := 86) (cs := #[.string x.v0, .string x.v1, .string x.v2, .string x.v3, .int .i64 n0, .bool x.asks, .int .u32 x.w0, .int .u32 x.w1, .int .u32 x.w2, .string x.gp, .string x.gg, .int .i64 n1, .int .i64 n2, .int .i64 n3]) (by simp)
        have q11 := hFc.blk (b := b11) (t := 86) (cs := #[.string y.v0, .string y.v1, .string y.v2, .string y.v3, .int .i64 k0, .bool y.asks, .int .u32 y.w0, .int .u32 y.w1, .int .u32 y.w2, .string y.gp, .string y.gg, .int .i64 k1, .int .i64 k2, .int .i64 k3]) (by simp)
        obtain ⟨a0, a1, a2, a3, a4, a5, a6, a7, a8, a9, a10, a11, a12, a13⟩ := cells14 q4
        obtain ⟨b0, b1, b2, b3, b4, b5, b6, b7, b8, b9, b10, b11, b12, b13⟩ := cells14 q5
        obtain ⟨c0, c1, c2, c3, c4, c5, c6, c7, c8, c9, c10, c11, c12, c13⟩ := cells14 q9
        obtain ⟨d0, d1, d2, d3, d4, d5, d6, d7, d8, d9, d10, d11, d12, d13⟩ := cells14 q11
        clear hFc hnm hr he0 he6 he7 hsame hz1 hz2 hi0 hi1 hi2 hi3 hj0 hj1 hj2 hj3 Hi HT hn hm
        go_upto_region 10 with fail
        go_cut [15] (fun v wd => v = .bool r ∧ wd = wx)
        case first =>
          as_aux_lemma =>
            go_wp2_with fail
            all_goals go_meet
            all_goals refine ⟨?_, rfl⟩
            all_goals (have hr := Hr.out; have h0 := He0.out; have h6 := He6.out; have h7 := He7.out)
            all_goals (clear HS HAW EV EW EG q4 q5 q9 q11 Hr He0 He6 He7 Hnm; clear a0 a1 a2 a3 a4 a5 a6 a7 a8 a9 a10 a11 a12 a13; clear b0 b1 b2 b3 b4 b5 b6 b7 b8 b9 b10 b11 b12 b13; clear c0 c1 c2 c3 c4 c5 c6 c7 c8 c9 c10 c11 c12 c13; clear d0 d1 d2 d3 d4 d5 d6 d7 d8 d9 d10 d11 d12 d13)
            all_goals (rw [same_fin hr h0 h6 h7])
            all_goals (clear hr h0 h6 h7 Hx Hy Hfx Hfy HL Hls hb0 hbw hpre hTl ht hu hz0)
            all_goals (simp only [*, Bool.true_and, Bool.false_and, Bool.and_false, Bool.and_true, Bool.not_true, Bool.not_false, Bool.true_or, Bool.false_or, decide_true, decide_false, Bool.or_true, Bool.or_false])
            all_goals (first | done | rfl | (simp_all; done))
        case rest =>
          obtain ⟨wy, rfl⟩ : ∃ wy : World, wy = wc := ⟨wc, rfl⟩
          obtain ⟨rfl, rfl⟩ := hcut
          clear a0 a1 a2 a3 a4 a5 a6 a7 a8 a9 a10 a11 a12 a13
          clear b0 b1 b2 b3 b4 b5 b6 b7 b8 b9 b10 b11 b12 b13
          clear c0 c1 c2 c3 c4 c5 c6 c7 c8 c9 c10 c11 c12 c13
          clear d0 d1 d2 d3 d4 d5 d6 d7 d8 d9 d10 d11 d12 d13
          clear EV EW EG q4 q5 He0 He6 He7 Hr
          have hrr : r = true ∧ n = m ∨ r = false ∧ ¬ n = m := by
            have := Hnm.out
            cases r <;> simp_all
          clear Hnm
          rcases hrr with ⟨rfl, rfl⟩ | ⟨rfl, hne⟩
          · go_wp2_with (first
              | (go_at_call 42; refine (HAW.out _ hbw).mono ?_; rintro e x3 ⟨rfl, hb3⟩; replace q9 := q9.below hb3 q9.lt; replace q11 := q11.below hb3 q11.lt; obtain ⟨c0, c1, c2, c3, c4, c5, c6, c7, c8, c9, c10, c11, c12, c13⟩ := cells14 q9; obtain ⟨d0, d1, d2, d3, d4, d5, d6, d7, d8, d9, d10, d11, d12, d13⟩ := cells14 q11)
              | (go_at_call 45; refine (HS.out _).mono ?_; rintro e x4 ⟨rfl, hb4⟩)
              | fail)
            go_ret
            exact ⟨rfl, hbw.trans ((hb3.trans (hb4.mono hb3.size)).mono hbw.size)⟩
          · go_wp2_with (first
              | (go_at_call 42; refine (HAW.out _ hbw).mono ?_; rintro e x3 ⟨rfl, hb3⟩; replace q9 := q9.below hb3 q9.lt; replace q11 := q11.below hb3 q11.lt; obtain ⟨c0, c1, c2, c3, c4, c5, c6, c7, c8, c9, c10, c11, c12, c13⟩ := cells14 q9; obtain ⟨d0, d1, d2, d3, d4, d5, d6, d7, d8, d9, d10, d11, d12, d13⟩ := cells14 q11)
              | (go_at_call 45; refine (HS.out _).mono ?_; rintro e x4 ⟨rfl, hb4⟩)
              | fail)
            go_ret
            exact ⟨rfl, hbw.trans ((hb3.trans (hb4.mono hb3.size)).mono hbw.size)⟩
end
end Go.Proofs.YtfjegckomjpkdaaGreatDoor
