/-
  Several of my texts in one: KxI, KxJ.
-/
import Derived.Test.YtjaipdenahlheaaGreatDoorKKxS
import Derived.Test.YtjaipdenahlheaaGreatDoorKMsgYG
import Derived.Test.YtjaipdenahlheaaGreatDoorKDecW
import Derived.Test.YtjaipdenahlheaaGreatDoorKGets
set_option linter.unusedVariables false
set_option linter.unusedSimpArgs false
namespace Go.Proofs.YtjaipdenahlheaaGreatDoor
open Go.RowKit Go.ChangeShapes Go.WideShapes Go.Sort
theorem FldsN.at_ {lo : Nat} {w : World} {A : Option Addr} {l : List Fld} (h : FldsN lo w A l) {i : Nat} {x : Fld} (hx : l[i]? = some x) :
    ∃ ad B c, A = some ad ∧ lo ≤ ad.block ∧ ad.block < w.heap.size ∧ At4 w (ad.add (i * 4)) x (.slice B x.l.length c) ∧ NewC lo w (.slice B x.l.length c) x.l := by
  obtain ⟨ad, lv, e, h1, c0, c1, c2, c3, ⟨ht, B, c, hlv, hc⟩, hk⟩ := h.flds.at_ i x hx
  subst hlv
  have hlo : lo ≤ ad.block := by
    rcases Nat.lt_or_ge ad.block lo with hlt | hge
    · exfalso
      have h2 := (h.setCell (p := ad.add (i * 4)) (by rw [block_of_add]; exact hlt) undef).flds
      obtain ⟨ad', lv', e', _, d0, _⟩ := h2.at_ i x hx
      rw [e] at e'
      cases e'
      rw [World.cell?_setCell_same w _ undef c0] at d0
      cases d0
    · exact hge
  refine ⟨ad, B, c, e, hlo, h1, ⟨c0, c1, c2, c3⟩, ?_⟩
  obtain ⟨B', c', e2, hS⟩ := ht
  rw [List.length_map] at e2 hS
  obtain ⟨rfl, rfl⟩ : B = B' ∧ c = c' := by injection e2 with e3 _ e4; exact ⟨e3, e4⟩
  refine ⟨B, c, rfl, hc, hS.1, fun hn => ?_⟩
  obtain ⟨q, e3, _, h5, h6⟩ := hS.2 hn
  refine ⟨q, e3, ?_, h5, h6⟩
  rcases Nat.lt_or_ge q.block lo with hlt | hge
  · exfalso
    have hq0 : (x.l.map bs).map Value.string ≠ [] := by
      intro e4
      have := congrArg List.length e4
      simp only [List.length_map, List.length_nil] at this
      omega
    obtain ⟨u0, us, hus⟩ := List.exists_cons_of_ne_nil hq0
    have hu := h6 0 u0 (by rw [hus]; rfl)
    have h7 := (h.setCell (p := q.add 0) (by rw [block_of_add]; exact hlt) undef).flds
    obtain ⟨ad', lv', e', _, _, _, _, d3, ⟨ht', _⟩, _⟩ := h7.at_ i x hx
    rw [e] at e'
    cases e'
    have hne : (q.add 0) ≠ ⟨(ad.add (i * 4)).block, (ad.add (i * 4)).off + 3, none⟩ := by
      intro e5
      have := congrArg Addr.block e5
      simp only [block_of_add] at this
      omega
    rw [World.cell?_setCell_other w _ _ undef hne, c3] at d3
    cases d3
    obtain ⟨B2, c2', e6, hS2⟩ := ht'
    rw [List.length_map] at e6 hS2
    obtain ⟨q2, e7, _, _, h8⟩ := hS2.2 hn
    have : B = B2 := by injection e6
    subst this
    rw [e3] at e7
    cases e7
    have h9 := h8 0 u0 (by rw [hus]; rfl)
    rw [World.cell?_setCell_same w _ undef hu] at h9
    have h10 := List.mem_of_getElem? (show ((x.l.map bs).map Value.string)[0]? = some u0 by rw [hus]; rfl)
    obtain ⟨s, _, rfl⟩ := List.mem_map.1 h10
    cases h9
  · exact hge
theorem dec_len {p : List UInt8} {n : Nat} {l : List Fld} (h : decS p = .ok n l) : ∀ x ∈ l, x.l.length ≤ 16 := by
  obtain ⟨cc, rr, hp2, hn2, hpl2, hff⟩ := decS_get h
  obtain ⟨f0, hf0, hrd⟩ := firstF_get hff
  obtain ⟨hk1, hk2, hk3⟩ := readFs_get hrd
  exact fun x hx => (putF_big (hk2 x hx)).2.1
/-- Values of a message in memory, and their lists. -/
structure ParI (lo : Nat) (ad : Addr) (fl : List Fld) (vs : List Value) (W : World) : Prop where
  lt : ad.block < W.heap.size
  at_ : ∀ (j : Nat) x v, fl[j]? = some x → vs[j]? = some v → At4 W (ad.add (j * 4)) x v ∧ NewC lo W v x.l
theorem ParI.below {lo : Nat} {ad : Addr} {fl : List Fld} {vs : List Value} {W W' : World} (h : ParI lo ad fl vs W) (hb : Below W.heap.size W W') : ParI lo ad fl vs W' :=
  ⟨Nat.lt_of_lt_of_le h.lt hb.size, fun j x v h1 h2 => ⟨(h.at_ j x v h1 h2).1.below hb, (h.at_ j x v h1 h2).2.belowW hb⟩⟩
theorem FldsN.par {lo : Nat} {w : World} {A : Option Addr} {ck : List UInt8} {l1 l2 l3 l4 l5 l6 l7 l8 l9 l10 : List (List UInt8)} {f u : Int} (h : FldsN lo w A (kexFs ck [l1, l2, l3, l4, l5, l6, l7, l8, l9, l10] f u)) :
    ∃ ad b0 c0 b1 c1 b2 c2 b3 c3 b4 c4 b5 c5 b6 c6 b7 c7 b8 c8 b9 c9 b10 c10 b11 c11 b12 c12, A = some ad ∧ ParI lo ad (kexFs ck [l1, l2, l3, l4, l5, l6, l7, l8, l9, l10] f u) [.slice b0 0 c0, .slice b1 l1.length c1, .slice b2 l2.length c2, .slice b3 l3.length c3, .slice b4 l4.length c4, .slice b5 l5.length c5, .slice b6 l6.length c6, .slice b7 l7.length c7, .slice b8 l8.length c8, .slice b9 l9.length c9, .slice b10 l10.length c10, .slice b11 0 c11, .slice b12 0 c12] w := by
  obtain ⟨ad0, b0, c0, e0, lo0, lt0, p0, q0⟩ := h.at_ (i := 0) (x := ⟨99, 0, ck, []⟩) rfl
  obtain ⟨ad1, b1, c1, e1, lo1, lt1, p1, q1⟩ := h.at_ (i := 1) (x := ⟨110, 0, [], l1⟩) rfl
  obtain ⟨ad2, b2, c2, e2, lo2, lt2, p2, q2⟩ := h.at_ (i := 2) (x := ⟨110, 0, [], l2⟩) rfl
  obtain ⟨ad3, b3, c3, e3, lo3, lt3, p3, q3⟩ := h.at_ (i := 3) (x := ⟨110, 0, [], l3⟩) rfl
  obtain ⟨ad4, b4, c4, e4, lo4, lt4, p4, q4⟩ := h.at_ (i := 4) (x := ⟨110, 0, [], l4⟩) rfl
  obtain ⟨ad5, b5, c5, e5, lo5, lt5, p5, q5⟩ := h.at_ (i := 5) (x := ⟨110, 0, [], l5⟩) rfl
  obtain ⟨ad6, b6, c6, e6, lo6, lt6, p6, q6⟩ := h.at_ (i := 6) (x := ⟨110, 0, [], l6⟩) rfl
  obtain ⟨ad7, b7, c7, e7, lo7, lt7, p7, q7⟩ := h.at_ (i := 7) (x := ⟨110, 0, [], l7⟩) rfl
  obtain ⟨ad8, b8, c8, e8, lo8, lt8, p8, q8⟩ := h.at_ (i := 8) (x := ⟨110, 0, [], l8⟩) rfl
  obtain ⟨ad9, b9, c9, e9, lo9, lt9, p9, q9⟩ := h.at_ (i := 9) (x := ⟨110, 0, [], l9⟩) rfl
  obtain ⟨ad10, b10, c10, e10, lo10, lt10, p10, q10⟩ := h.at_ (i := 10) (x := ⟨110, 0, [], l10⟩) rfl
  obtain ⟨ad11, b11, c11, e11, lo11, lt11, p11, q11⟩ := h.at_ (i := 11) (x := ⟨98, f, [], []⟩) rfl
  obtain ⟨ad12, b12, c12, e12, lo12, lt12, p12, q12⟩ := h.at_ (i := 12) (x := ⟨117, u, [], []⟩) rfl
  subst e0
  obtain rfl : ad0 = ad1 := Option.some.inj e1
  obtain rfl : ad0 = ad2 := Option.some.inj e2
  obtain rfl : ad0 = ad3 := Option.some.inj e3
  obtain rfl : ad0 = ad4 := Option.some.inj e4
  obtain rfl : ad0 = ad5 := Option.some.inj e5
  obtain rfl : ad0 = ad6 := Option.some.inj e6
  obtain rfl : ad0 = ad7 := Option.some.inj e7
  obtain rfl : ad0 = ad8 := Option.some.inj e8
  obtain rfl : ad0 = ad9 := Option.some.inj e9
  obtain rfl : ad0 = ad10 := Option.some.inj e10
  obtain rfl : ad0 = ad11 := Option.some.inj e11
  obtain rfl : ad0 = ad12 := Option.some.inj e12
  refine ⟨ad0, b0, c0, b1, c1, b2, c2, b3, c3, b4, c4, b5, c5, b6, c6, b7, c7, b8, c8, b9, c9, b10, c10, b11, c11, b12, c12, rfl, lt0, fun j x v h1 h2 => ?_⟩
  match j, h1, h2 with
  | 0, h1, h2 => cases h1; cases h2; exact ⟨p0, q0⟩
  | 1, h1, h2 => cases h1; cases h2; exact ⟨p1, q1⟩
  | 2, h1, h2 => cases h1; cases h2; exact ⟨p2, q2⟩
  | 3, h1, h2 => cases h1; cases h2; exact ⟨p3, q3⟩
  | 4, h1, h2 => cases h1; cases h2; exact ⟨p4, q4⟩
  | 5, h1, h2 => cases h1; cases h2; exact ⟨p5, q5⟩
  | 6, h1, h2 => cases h1; cases h2; exact ⟨p6, q6⟩
  | 7, h1, h2 => cases h1; cases h2; exact ⟨p7, q7⟩
  | 8, h1, h2 => cases h1; cases h2; exact ⟨p8, q8⟩
  | 9, h1, h2 => cases h1; cases h2; exact ⟨p9, q9⟩
  | 10, h1, h2 => cases h1; cases h2; exact ⟨p10, q10⟩
  | 11, h1, h2 => cases h1; cases h2; exact ⟨p11, q11⟩
  | 12, h1, h2 => cases h1; cases h2; exact ⟨p12, q12⟩
  | n + 13, _, h2 => simp at h2
theorem fin16 {w : World} {r : Nat} {t : TypeId} {o0 o1 o2 o3 o4 o5 o6 o7 o8 o9 o10 o11 o12 o13 o14 o15 : Value} (h : Blk w r t #[o0, o1, o2, o3, o4, o5, o6, o7, o8, o9, o10, o11, o12, o13, o14, o15]) (v0 v1 v2 v3 v4 v5 v6 v7 v8 v9 v10 v11 v12 v13 v14 v15 : Value) :
    Blk ((((((((((((((((w.setCell ⟨r, 0, none⟩ v0).setCell ⟨r, 1, none⟩ v1).setCell ⟨r, 2, none⟩ v2).setCell ⟨r, 3, none⟩ v3).setCell ⟨r, 4, none⟩ v4).setCell ⟨r, 5, none⟩ v5).setCell ⟨r, 6, none⟩ v6).setCell ⟨r, 7, none⟩ v7).setCell ⟨r, 8, none⟩ v8).setCell ⟨r, 9, none⟩ v9).setCell ⟨r, 10, none⟩ v10).setCell ⟨r, 11, none⟩ v11).setCell ⟨r, 12, none⟩ v12).setCell ⟨r, 13, none⟩ v13).setCell ⟨r, 14, none⟩ v14).setCell ⟨r, 15, none⟩ v15) r t #[v0, v1, v2, v3, v4, v5, v6, v7, v8, v9, v10, v11, v12, v13, v14, v15] := by
  have h1 := ((((((((((((((((h.set_ 0 v0).set_ 1 v1).set_ 2 v2).set_ 3 v3).set_ 4 v4).set_ 5 v5).set_ 6 v6).set_ 7 v7).set_ 8 v8).set_ 9 v9).set_ 10 v10).set_ 11 v11).set_ 12 v12).set_ 13 v13).set_ 14 v14).set_ 15 v15)
  simpa using h1
theorem only16 {a w : World} {r : Nat} (h : a.grownBy w (some r)) (v0 v1 v2 v3 v4 v5 v6 v7 v8 v9 v10 v11 v12 v13 v14 v15 : Value) : a.grownBy ((((((((((((((((w.setCell ⟨r, 0, none⟩ v0).setCell ⟨r, 1, none⟩ v1).setCell ⟨r, 2, none⟩ v2).setCell ⟨r, 3, none⟩ v3).setCell ⟨r, 4, none⟩ v4).setCell ⟨r, 5, none⟩ v5).setCell ⟨r, 6, none⟩ v6).setCell ⟨r, 7, none⟩ v7).setCell ⟨r, 8, none⟩ v8).setCell ⟨r, 9, none⟩ v9).setCell ⟨r, 10, none⟩ v10).setCell ⟨r, 11, none⟩ v11).setCell ⟨r, 12, none⟩ v12).setCell ⟨r, 13, none⟩ v13).setCell ⟨r, 14, none⟩ v14).setCell ⟨r, 15, none⟩ v15) (some r) :=
  (only_setCell (only_setCell (only_setCell (only_setCell (only_setCell (only_setCell (only_setCell (only_setCell (only_setCell (only_setCell (only_setCell (only_setCell (only_setCell (only_setCell (only_setCell (only_setCell h (p := ⟨r, 0, none⟩) (.inl rfl) v0) (p := ⟨r, 1, none⟩) (.inl rfl) v1) (p := ⟨r, 2, none⟩) (.inl rfl) v2) (p := ⟨r, 3, none⟩) (.inl rfl) v3) (p := ⟨r, 4, none⟩) (.inl rfl) v4) (p := ⟨r, 5, none⟩) (.inl rfl) v5) (p := ⟨r, 6, none⟩) (.inl rfl) v6) (p := ⟨r, 7, none⟩) (.inl rfl) v7) (p := ⟨r, 8, none⟩) (.inl rfl) v8) (p := ⟨r, 9, none⟩) (.inl rfl) v9) (p := ⟨r, 10, none⟩) (.inl rfl) v10) (p := ⟨r, 11, none⟩) (.inl rfl) v11) (p := ⟨r, 12, none⟩) (.inl rfl) v12) (p := ⟨r, 13, none⟩) (.inl rfl) v13) (p := ⟨r, 14, none⟩) (.inl rfl) v14) (p := ⟨r, 15, none⟩) (.inl rfl) v15)
theorem bel16 {B : Nat} {w0 w : World} {r : Nat} (h : Below B w0 w) (hr : B ≤ r) (v0 v1 v2 v3 v4 v5 v6 v7 v8 v9 v10 v11 v12 v13 v14 v15 : Value) : Below B w0 ((((((((((((((((w.setCell ⟨r, 0, none⟩ v0).setCell ⟨r, 1, none⟩ v1).setCell ⟨r, 2, none⟩ v2).setCell ⟨r, 3, none⟩ v3).setCell ⟨r, 4, none⟩ v4).setCell ⟨r, 5, none⟩ v5).setCell ⟨r, 6, none⟩ v6).setCell ⟨r, 7, none⟩ v7).setCell ⟨r, 8, none⟩ v8).setCell ⟨r, 9, none⟩ v9).setCell ⟨r, 10, none⟩ v10).setCell ⟨r, 11, none⟩ v11).setCell ⟨r, 12, none⟩ v12).setCell ⟨r, 13, none⟩ v13).setCell ⟨r, 14, none⟩ v14).setCell ⟨r, 15, none⟩ v15) :=
  ((((((((((((((((h.setCell (p := ⟨r, 0, none⟩) hr v0).setCell (p := ⟨r, 1, none⟩) hr v1).setCell (p := ⟨r, 2, none⟩) hr v2).setCell (p := ⟨r, 3, none⟩) hr v3).setCell (p := ⟨r, 4, none⟩) hr v4).setCell (p := ⟨r, 5, none⟩) hr v5).setCell (p := ⟨r, 6, none⟩) hr v6).setCell (p := ⟨r, 7, none⟩) hr v7).setCell (p := ⟨r, 8, none⟩) hr v8).setCell (p := ⟨r, 9, none⟩) hr v9).setCell (p := ⟨r, 10, none⟩) hr v10).setCell (p := ⟨r, 11, none⟩) hr v11).setCell (p := ⟨r, 12, none⟩) hr v12).setCell (p := ⟨r, 13, none⟩) hr v13).setCell (p := ⟨r, 14, none⟩) hr v14).setCell (p := ⟨r, 15, none⟩) hr v15)
theorem newC16 {lo : Nat} {w : World} {r : Nat} {v : Value} {l : List (List UInt8)} (h : NewC lo w v l) (hr : r < lo) (v0 v1 v2 v3 v4 v5 v6 v7 v8 v9 v10 v11 v12 v13 v14 v15 : Value) : NewC lo ((((((((((((((((w.setCell ⟨r, 0, none⟩ v0).setCell ⟨r, 1, none⟩ v1).setCell ⟨r, 2, none⟩ v2).setCell ⟨r, 3, none⟩ v3).setCell ⟨r, 4, none⟩ v4).setCell ⟨r, 5, none⟩ v5).setCell ⟨r, 6, none⟩ v6).setCell ⟨r, 7, none⟩ v7).setCell ⟨r, 8, none⟩ v8).setCell ⟨r, 9, none⟩ v9).setCell ⟨r, 10, none⟩ v10).setCell ⟨r, 11, none⟩ v11).setCell ⟨r, 12, none⟩ v12).setCell ⟨r, 13, none⟩ v13).setCell ⟨r, 14, none⟩ v14).setCell ⟨r, 15, none⟩ v15) v l :=
  ((((((((((((((((h.set_ (p := ⟨r, 0, none⟩) hr v0).set_ (p := ⟨r, 1, none⟩) hr v1).set_ (p := ⟨r, 2, none⟩) hr v2).set_ (p := ⟨r, 3, none⟩) hr v3).set_ (p := ⟨r, 4, none⟩) hr v4).set_ (p := ⟨r, 5, none⟩) hr v5).set_ (p := ⟨r, 6, none⟩) hr v6).set_ (p := ⟨r, 7, none⟩) hr v7).set_ (p := ⟨r, 8, none⟩) hr v8).set_ (p := ⟨r, 9, none⟩) hr v9).set_ (p := ⟨r, 10, none⟩) hr v10).set_ (p := ⟨r, 11, none⟩) hr v11).set_ (p := ⟨r, 12, none⟩) hr v12).set_ (p := ⟨r, 13, none⟩) hr v13).set_ (p := ⟨r, 14, none⟩) hr v14).set_ (p := ⟨r, 15, none⟩) hr v15)
theorem err16 {w : World} {r : Nat} {cs : Array Value} (hB : Blk w r 45 cs) {v : Value} {ps : List (List UInt8)} {k : Int} (h : IsErr w v ps k) (v0 v1 v2 v3 v4 v5 v6 v7 v8 v9 v10 v11 v12 v13 v14 v15 : Value) : IsErr ((((((((((((((((w.setCell ⟨r, 0, none⟩ v0).setCell ⟨r, 1, none⟩ v1).setCell ⟨r, 2, none⟩ v2).setCell ⟨r, 3, none⟩ v3).setCell ⟨r, 4, none⟩ v4).setCell ⟨r, 5, none⟩ v5).setCell ⟨r, 6, none⟩ v6).setCell ⟨r, 7, none⟩ v7).setCell ⟨r, 8, none⟩ v8).setCell ⟨r, 9, none⟩ v9).setCell ⟨r, 10, none⟩ v10).setCell ⟨r, 11, none⟩ v11).setCell ⟨r, 12, none⟩ v12).setCell ⟨r, 13, none⟩ v13).setCell ⟨r, 14, none⟩ v14).setCell ⟨r, 15, none⟩ v15) v ps k :=
  IsErr.own hB (by decide) (only16 (only_refl w (some r)) v0 v1 v2 v3 v4 v5 v6 v7 v8 v9 v10 v11 v12 v13 v14 v15) h
end Go.Proofs.YtjaipdenahlheaaGreatDoor
namespace Go.Proofs.YtjaipdenahlheaaGreatDoor
open Go.RowKit Go.ChangeShapes Go.WideShapes Go.Sort
theorem step_call2K {P : Program} {Q : Exit → Act → World → Prop} {ops : Array Oper} {o : Oper} {a : Act} {w : World} {u v : Value} {f : FuncId} {K : Act → World → Prop} {F : Prop} (hgd : o.guard = none)
    (hr : (execOp a.eval o).run P w = .ok (.enter f #[u, v]) w) {post : Ending → World → Prop} (hc : Calls P f #[u, v] w post) (h : ∀ e w', post e w' → ∃ r, e = .returned r ∧ K (a.put o.dst r) w') : if Region.wanted o (yielded ops a.tmps) = true then Oper.wp P o a w K Q else F := by
  rw [if_pos (by simp [Region.wanted, hgd])]
  unfold Oper.wp
  rw [hr, Oper.upon_enter]
  refine hc.mono fun e w' hp => ?_
  obtain ⟨r, rfl, hk⟩ := h e w' hp
  exact hk
theorem callG {x : Operand} {u : Value} {j : Int} {ts : Array TypeId} (o : Oper) (ho : o.op = .call { callee := .value (.func 50), args := #[x, .const (.int .i64 j)], argTypes := ts }) (a : Act) (hx : a.eval x = u) (w : World) : (execOp a.eval o).run Tryz.prog w = .ok (.enter 50 #[u, .int .i64 j]) w := by
  obtain ⟨d, op, t, p, af, gd⟩ := o
  simp only at ho
  subst ho
  have h1 : a.eval (.func 50) = .func (.func 50) #[] #[] := rfl
  have h2 : a.eval (.const (.int .i64 j)) = .int .i64 j := rfl
  subst hx
  go_simp
theorem step_skipA {P : Program} {Q : Exit → Act → World → Prop} {ops : Array Oper} {o : Oper} {a : Act} {w w' : World} {K : Act → World → Prop} {F : Prop} (hgd : o.guard = none)
    (hr : (execOp a.eval o).run P w = .ok .skip w') (h : K (a.put o.dst undef) w') : if Region.wanted o (yielded ops a.tmps) = true then Oper.wp P o a w K Q else F := by
  rw [if_pos (by simp [Region.wanted, hgd])]
  unfold Oper.wp
  rw [hr]
  exact h
theorem allI (o : Oper) (ho : o.op = .alloc 45) (ρ : Operand → Value) (w : World) : (execOp ρ o).run Tryz.prog w = .ok (.value (.pointer (some ⟨w.heap.size, 0, none⟩))) (w.alloc (.cells #[.string ⟨#[]⟩, .slice none 0 0, .slice none 0 0, .slice none 0 0, .slice none 0 0, .slice none 0 0, .slice none 0 0, .slice none 0 0, .slice none 0 0, .slice none 0 0, .slice none 0 0, .bool false, .bool false, .bool false, .bool false, .bool false] 45)) := by
  obtain ⟨d, op, t, p, af, gd⟩ := o
  simp only at ho
  subst ho
  go_simp
def sto16 (w : World) (g : Nat) (v0 v1 v2 v3 v4 v5 v6 v7 v8 v9 v10 v11 v12 v13 v14 v15 : Value) : World := ((((((((((((((((w.setCell ⟨g, 0, none⟩ v0).setCell ⟨g, 1, none⟩ v1).setCell ⟨g, 2, none⟩ v2).setCell ⟨g, 3, none⟩ v3).setCell ⟨g, 4, none⟩ v4).setCell ⟨g, 5, none⟩ v5).setCell ⟨g, 6, none⟩ v6).setCell ⟨g, 7, none⟩ v7).setCell ⟨g, 8, none⟩ v8).setCell ⟨g, 9, none⟩ v9).setCell ⟨g, 10, none⟩ v10).setCell ⟨g, 11, none⟩ v11).setCell ⟨g, 12, none⟩ v12).setCell ⟨g, 13, none⟩ v13).setCell ⟨g, 14, none⟩ v14).setCell ⟨g, 15, none⟩ v15)
theorem sto16_blk {w : World} {r : Nat} {t : TypeId} {o0 o1 o2 o3 o4 o5 o6 o7 o8 o9 o10 o11 o12 o13 o14 o15 : Value} (h : Blk w r t #[o0, o1, o2, o3, o4, o5, o6, o7, o8, o9, o10, o11, o12, o13, o14, o15]) (v0 v1 v2 v3 v4 v5 v6 v7 v8 v9 v10 v11 v12 v13 v14 v15 : Value) : Blk (sto16 w r v0 v1 v2 v3 v4 v5 v6 v7 v8 v9 v10 v11 v12 v13 v14 v15) r t #[v0, v1, v2, v3, v4, v5, v6, v7, v8, v9, v10, v11, v12, v13, v14, v15] := fin16 h v0 v1 v2 v3 v4 v5 v6 v7 v8 v9 v10 v11 v12 v13 v14 v15
theorem sto16_bel {B : Nat} {w0 w : World} {r : Nat} (h : Below B w0 w) (hr : B ≤ r) (v0 v1 v2 v3 v4 v5 v6 v7 v8 v9 v10 v11 v12 v13 v14 v15 : Value) : Below B w0 (sto16 w r v0 v1 v2 v3 v4 v5 v6 v7 v8 v9 v10 v11 v12 v13 v14 v15) := bel16 h hr v0 v1 v2 v3 v4 v5 v6 v7 v8 v9 v10 v11 v12 v13 v14 v15
theorem sto16_new {lo : Nat} {w : World} {r : Nat} {v : Value} {l : List (List UInt8)} (h : NewC lo w v l) (hr : r < lo) (v0 v1 v2 v3 v4 v5 v6 v7 v8 v9 v10 v11 v12 v13 v14 v15 : Value) : NewC lo (sto16 w r v0 v1 v2 v3 v4 v5 v6 v7 v8 v9 v10 v11 v12 v13 v14 v15) v l := newC16 h hr v0 v1 v2 v3 v4 v5 v6 v7 v8 v9 v10 v11 v12 v13 v14 v15
theorem sto16_err {w : World} {r : Nat} {cs : Array Value} (hB : Blk w r 45 cs) {v : Value} {ps : List (List UInt8)} {k : Int} (h : IsErr w v ps k) (v0 v1 v2 v3 v4 v5 v6 v7 v8 v9 v10 v11 v12 v13 v14 v15 : Value) : IsErr (sto16 w r v0 v1 v2 v3 v4 v5 v6 v7 v8 v9 v10 v11 v12 v13 v14 v15) v ps k := err16 hB h v0 v1 v2 v3 v4 v5 v6 v7 v8 v9 v10 v11 v12 v13 v14 v15
set_option maxHeartbeats 4000000 in
set_option maxRecDepth 100000 in
theorem stoI {x y : Operand} {g : Nat} {s : ByteArray} {b : Bool} (o : Oper) (ho : o.op = .store 45 x y) (ρ : Operand → Value) (hρ : ρ x = .pointer (some ⟨g, 0, none⟩)) (hρ2 : ρ y = .agg #[.string s, .slice none 0 0, .slice none 0 0, .slice none 0 0, .slice none 0 0, .slice none 0 0, .slice none 0 0, .slice none 0 0, .slice none 0 0, .slice none 0 0, .slice none 0 0, .bool false, .bool false, .bool false, .bool false, .bool b]) (w : World) (hb : Blk w g 45 #[.string ⟨#[]⟩, .slice none 0 0, .slice none 0 0, .slice none 0 0, .slice none 0 0, .slice none 0 0, .slice none 0 0, .slice none 0 0, .slice none 0 0, .slice none 0 0, .slice none 0 0, .bool false, .bool false, .bool false, .bool false, .bool false]) :
    (execOp ρ o).run Tryz.prog w = .ok .skip (sto16 w g (.string s) (.slice none 0 0) (.slice none 0 0) (.slice none 0 0) (.slice none 0 0) (.slice none 0 0) (.slice none 0 0) (.slice none 0 0) (.slice none 0 0) (.slice none 0 0) (.slice none 0 0) (.bool false) (.bool false) (.bool false) (.bool false) (.bool b)) := by
  obtain ⟨d, op, t, p, af, gd⟩ := o
  simp only at ho
  subst ho
  have c0 := hb.cell 0
  have f0 := hb.frozen 0
  have c1 := hb.cell 1
  have f1 := hb.frozen 1
  have c2 := hb.cell 2
  have f2 := hb.frozen 2
  have c3 := hb.cell 3
  have f3 := hb.frozen 3
  have c4 := hb.cell 4
  have f4 := hb.frozen 4
  have c5 := hb.cell 5
  have f5 := hb.frozen 5
  have c6 := hb.cell 6
  have f6 := hb.frozen 6
  have c7 := hb.cell 7
  have f7 := hb.frozen 7
  have c8 := hb.cell 8
  have f8 := hb.frozen 8
  have c9 := hb.cell 9
  have f9 := hb.frozen 9
  have c10 := hb.cell 10
  have f10 := hb.frozen 10
  have c11 := hb.cell 11
  have f11 := hb.frozen 11
  have c12 := hb.cell 12
  have f12 := hb.frozen 12
  have c13 := hb.cell 13
  have f13 := hb.frozen 13
  have c14 := hb.cell 14
  have f14 := hb.frozen 14
  have c15 := hb.cell 15
  have f15 := hb.frozen 15
  simp at c0 c1 c2 c3 c4 c5 c6 c7 c8 c9 c10 c11 c12 c13 c14 c15
  clear hb
  unfold sto16
  go_simp
theorem stoL2 {x y : Operand} {g : Nat} {T : TypeId} {cs : Array Value} {B0 B1 : Option Addr} {n0 n1 d0 d1 : Nat} (o : Oper) (ho : o.op = .store 43 x y) (ρ : Operand → Value) (hρ : ρ x = .pointer (some ⟨g, 9, none⟩)) (hρ2 : ρ y = .agg #[.slice B0 n0 d0, .slice B1 n1 d1]) (w : World) (hb : Blk w g T cs) (hc : 11 ≤ cs.size) :
    (execOp ρ o).run Tryz.prog w = .ok .skip ((w.setCell ⟨g, 9, none⟩ (.slice B0 n0 d0)).setCell ⟨g, 10, none⟩ (.slice B1 n1 d1)) := by
  obtain ⟨d, op, t, p, af, gd⟩ := o
  simp only at ho
  subst ho
  have c9 : w.cell? ⟨g, 9, none⟩ = some cs[9] := (hb.cell 9).trans (Array.getElem?_eq_getElem (by omega))
  have f9 := hb.frozen 9
  have c10 : w.cell? ⟨g, 10, none⟩ = some cs[10] := (hb.cell 10).trans (Array.getElem?_eq_getElem (by omega))
  have f10 := hb.frozen 10
  generalize cs[9] = q9 at c9
  generalize cs[10] = q10 at c10
  clear hb hc
  go_simp
theorem fin8o {w : World} {r : Nat} {t : TypeId} {o0 o1 o2 o3 o4 o5 o6 o7 o8 o9 o10 o11 o12 o13 o14 o15 : Value} (h : Blk w r t #[o0, o1, o2, o3, o4, o5, o6, o7, o8, o9, o10, o11, o12, o13, o14, o15]) (v1 v2 v3 v4 v5 v6 v7 v8 : Value) :
    Blk ((((((((w.setCell ⟨r, 1, none⟩ v1).setCell ⟨r, 2, none⟩ v2).setCell ⟨r, 3, none⟩ v3).setCell ⟨r, 4, none⟩ v4).setCell ⟨r, 5, none⟩ v5).setCell ⟨r, 6, none⟩ v6).setCell ⟨r, 7, none⟩ v7).setCell ⟨r, 8, none⟩ v8) r t #[o0, v1, v2, v3, v4, v5, v6, v7, v8, o9, o10, o11, o12, o13, o14, o15] := by
  have h1 := ((((((((h.set_ 1 v1).set_ 2 v2).set_ 3 v3).set_ 4 v4).set_ 5 v5).set_ 6 v6).set_ 7 v7).set_ 8 v8)
  simpa using h1
theorem bel8o {B : Nat} {w0 w : World} {r : Nat} (h : Below B w0 w) (hr : B ≤ r) (v1 v2 v3 v4 v5 v6 v7 v8 : Value) : Below B w0 ((((((((w.setCell ⟨r, 1, none⟩ v1).setCell ⟨r, 2, none⟩ v2).setCell ⟨r, 3, none⟩ v3).setCell ⟨r, 4, none⟩ v4).setCell ⟨r, 5, none⟩ v5).setCell ⟨r, 6, none⟩ v6).setCell ⟨r, 7, none⟩ v7).setCell ⟨r, 8, none⟩ v8) :=
  ((((((((h.setCell (p := ⟨r, 1, none⟩) hr v1).setCell (p := ⟨r, 2, none⟩) hr v2).setCell (p := ⟨r, 3, none⟩) hr v3).setCell (p := ⟨r, 4, none⟩) hr v4).setCell (p := ⟨r, 5, none⟩) hr v5).setCell (p := ⟨r, 6, none⟩) hr v6).setCell (p := ⟨r, 7, none⟩) hr v7).setCell (p := ⟨r, 8, none⟩) hr v8)
theorem newC8o {lo : Nat} {w : World} {r : Nat} {v : Value} {l : List (List UInt8)} (h : NewC lo w v l) (hr : r < lo) (v1 v2 v3 v4 v5 v6 v7 v8 : Value) : NewC lo ((((((((w.setCell ⟨r, 1, none⟩ v1).setCell ⟨r, 2, none⟩ v2).setCell ⟨r, 3, none⟩ v3).setCell ⟨r, 4, none⟩ v4).setCell ⟨r, 5, none⟩ v5).setCell ⟨r, 6, none⟩ v6).setCell ⟨r, 7, none⟩ v7).setCell ⟨r, 8, none⟩ v8) v l :=
  ((((((((h.set_ (p := ⟨r, 1, none⟩) hr v1).set_ (p := ⟨r, 2, none⟩) hr v2).set_ (p := ⟨r, 3, none⟩) hr v3).set_ (p := ⟨r, 4, none⟩) hr v4).set_ (p := ⟨r, 5, none⟩) hr v5).set_ (p := ⟨r, 6, none⟩) hr v6).set_ (p := ⟨r, 7, none⟩) hr v7).set_ (p := ⟨r, 8, none⟩) hr v8)
end Go.Proofs.YtjaipdenahlheaaGreatDoor
