/-
  The contract of an arena's Exp. Conditions: numbers fit; the library's table is as it was laid.
-/
import Derived.Test.YtkpikfdfekggbaaGreatDoorMake
import Derived.Test.YtkpikfdfekggbaaGreatDoorSort
namespace Go.Proofs.YtkpikfdfekggbaaGreatDoor
open Go.RowKit Go.ChangeShapes Go.WideShapes

theorem own_row {w : World} {b n : Nat} {v : Value} {js : List Nat} (h : w.ownsRow b 34 1 v n ((js.map Int.ofNat).map (Value.int .i64))) (hn : n = js.length) (h0 : 0 < n) : ∃ gb cap, v = .slice (some ⟨gb, 0, none⟩) n cap ∧ b ≤ gb ∧ RowW w w gb js := by
  rcases h.2 with ⟨_, h1⟩ | ⟨gb, cap, cur, rfl, hb, hh, hnc, _, _, hx⟩
  · omega
  · refine ⟨gb, cap, rfl, hb, only_refl _ _, cur, hh, fun k v hk => ?_⟩
    have h1 : (cur.toList.take (n * 1))[k]? = some (.int .i64 v) := by
      rw [hx]
      simp [hk]
    have hk2 := (List.getElem?_eq_some_iff.1 hk).1
    rw [List.getElem?_take_of_lt (by omega)] at h1
    simpa using h1
theorem RowW.ids {w0 w : World} {gb : Nat} {vs : List Nat} (h : RowW w0 w gb vs) {n cap : Nat} (hn : n = vs.length) : Ids w (.slice (some ⟨gb, 0, none⟩) n cap) (vs.map Int.ofNat) := by
  subst hn
  refine ⟨some ⟨gb, 0, none⟩, cap, by simp, by simp, fun _ => ⟨_, rfl, Nat.zero_le _, h.lt, fun j u hu => ?_⟩⟩
  rw [add_zero_]
  simp only [List.getElem?_map, Option.map_eq_some_iff] at hu
  obtain ⟨y, ⟨z, hz, rfl⟩, rfl⟩ := hu
  exact h.cell hz
theorem args_argl {T l : List Tm} {js : List Nat} (h : Args T l js) : argl T (js.map Int.ofNat) = some l := by
  unfold argl
  rw [List.map_map]
  have : js.map (arg T ∘ Int.ofNat) = l.map some := by
    rw [← h]
    exact List.map_congr_left fun j _ => arg_at
  rw [this, alls_some]
theorem share_good {t : Tm} (h : good t) (hk : t.k = 5) : hd 5 0 0 t.s t.l.length ∧ (∀ x ∈ t.l, x.k = 2) ∧ t.l.Pairwise tle ∧ goods t.l := by
  obtain ⟨k, a, b, s, l⟩ := t
  simp only [Tm.k] at hk
  subst hk
  simp only [good, hd, kids, true_and] at h
  obtain ⟨⟨_, _, h3⟩, h4, h5⟩ := h
  exact ⟨⟨rfl, rfl, h3⟩, h4.1, h4.2, h5⟩
theorem encs_nonces {l : List Tm} (hg : goods l) (hk : ∀ x ∈ l, x.k = 2) : (encs l).length = 9 * l.length := by
  induction l with
  | nil => rfl
  | cons t l ih =>
    simp only [goods] at hg
    simp only [encs, List.length_append, List.length_cons]
    rw [nonce_len hg.1 (hk t (by simp)), ih hg.2 fun x hx => hk x (by simp [hx])]
    omega
theorem tExp_no {o p : Option Tm} (h : isKo o 5 = false ∨ isKo p 2 = false) : tExp o p = none := by
  cases o with
  | none => rfl
  | some s => cases p with
    | none => rfl
    | some x =>
      show (if _ then _ else none) = none
      rw [if_neg]
      rintro ⟨h1, h2, _⟩
      rcases h with h | h
      · exact isKo_not (k := 5) h rfl h1
      · exact isKo_not (k := 2) h rfl h2
theorem infoID8 : (Tryz.prog.info? 34).map (fun i => (i.zero, i.size, i.bytes)) = some (some (.int .i64 0), 1, 8) := by kernel_rfl
section
variable {B g : Nat} {w : World} {T : List Tm} {S : Nat → Prop}
/-- Exp's node: a share's exponents with one more. -/
theorem nodeO_exp (hT : AOK T) {s x : Tm} (hs : s ∈ T) (hx : x ∈ T) (ks : s.k = 5) (kx : x.k = 2) (h8 : s.l.length < 8) {vs : List Nat} (hv : Args T (ins x s.l) vs) :
    nodeO T 5 0 0 s.s (vs.map Int.ofNat) = tExp (some s) (some x) ∧ ∀ l, argl T (vs.map Int.ofNat) = some l → hd 5 0 0 s.s l.length ∧ kids 5 l := by
  have gs := share_good (hT.fine s hs).1 ks
  have gx := (hT.fine x hx).1
  have e := args_argl hv
  have hkk : ∀ z ∈ ins x s.l, z.k = 2 := fun z hz => by
    rcases mem_ins.1 hz with rfl | hz
    · exact kx
    · exact gs.2.1 z hz
  have hgg : goods (ins x s.l) := (goods_iff _).2 fun z hz => by
    rcases mem_ins.1 hz with rfl | hz
    · exact gx
    · exact (goods_iff _).1 gs.2.2.2 z hz
  have h1 := gs.1
  simp only [hd] at h1
  constructor
  · unfold nodeO
    rw [e]
    show lim _ = if _ then _ else none
    rw [if_pos ⟨ks, kx, h8⟩, lim_small]
    simp only [enc, List.length_append, encs_nonces hgg hkk, ins_len, head, mid, List.length_cons, q4_len, size_len]
    omega
  · intro l hl
    rw [e] at hl
    cases hl
    rw [ins_len]
    exact ⟨⟨rfl, rfl, by omega, h1.2.2.2⟩, hkk, ins_sorted gs.2.2.1⟩
set_option maxHeartbeats 2000000 in
set_option maxRecDepth 100000 in
theorem aExp_any (h : Use B w g T S) (n m : Int) :
    Calls Tryz.prog 78 #[.pointer (some ⟨g, 0, none⟩), .int .i64 n, .int .i64 m] w (Done B w g T S (tExp (arg T n) (arg T m))) := by
  have HI := hide (ais_any h.ar n 5)
  have HJ := hide (ais_any h.ar m 2)
  cases h1 : isK T n 5 with
  | false =>
    rw [h1] at HI
    have Hn := hide (Done.none_ h.ar (Below.refl _ _))
    have Ho := hide (tExp_no (o := arg T n) (p := arg T m) (.inl (by rw [← isK_isKo]; exact h1)))
    clear h h1
    go_enter Tryz.func78, Tryz.ntmps78
    go_wp2_with (go_at_call 60; refine HI.out.mono ?_; rintro e w1 ⟨rfl, rfl⟩)
    go_ret
    rw [Ho.out]
    exact Hn.out
  | true =>
  rw [h1] at HI
  cases h2 : isK T m 2 with
  | false =>
    rw [h2] at HJ
    have Hn := hide (Done.none_ h.ar (Below.refl _ _))
    have Ho := hide (tExp_no (o := arg T n) (p := arg T m) (.inr (by rw [← isK_isKo]; exact h2)))
    clear h h1 h2
    go_enter Tryz.func78, Tryz.ntmps78
    go_wp2_with (first
      | (go_at_call 60; with_reducible refine HI.out.mono ?_; rintro e w1 ⟨rfl, rfl⟩)
      | (go_at_call 60; with_reducible refine HJ.out.mono ?_; rintro e w1 ⟨rfl, rfl⟩))
    go_ret
    rw [Ho.out]
    exact Hn.out
  | true =>
  rw [h2] at HJ
  rw [isK_isKo] at h1 h2
  obtain ⟨s, hs, ks⟩ := isKo_some (k := 5) h1
  obtain ⟨x, hx, kx⟩ := isKo_some (k := 2) h2
  rw [hs, hx]
  obtain ⟨i, rfl, hi⟩ := arg_some hs
  obtain ⟨j, rfl, hj⟩ := arg_some hx
  have hA := h.ar
  obtain ⟨nv, sv, mb, rows, D, hX⟩ := hA
  obtain ⟨nb, cap, av, js, rfl, hlt, c0, c1, c2, c3, c4, ha, hI⟩ := hX.cells hi
  have h0 : w.cell? ⟨g, 0, none⟩ = some (.slice (some ⟨nb, 0, none⟩) T.length cap) := hX.blk.cell 0
  have hil := (List.getElem?_eq_some_iff.1 hi).1
  have hii : (i : Int) < T.length := by omega
  have hi0 : (0 : Int) ≤ i := by omega
  have hjl := ha.len
  have h8 := share_len hX.ok (List.mem_of_getElem? hi) ks
  obtain ⟨A, c, rfl, hAI⟩ := hI
  have HI2 : Hid (Ids w (.slice A js.length c) (js.map Int.ofNat)) := ⟨A, c, by simp, hAI⟩
  simp only [List.length_map] at c4
  by_cases hl8 : s.l.length < 8
  · have hSrt : Srt T s.l js x j := ⟨ha, hj, (share_good (hX.ok.fine s (List.mem_of_getElem? hi)).1 ks).2.1, kx, (share_good (hX.ok.fine s (List.mem_of_getElem? hi)).1 ks).2.2.1⟩
    have HS := hide hSrt
    have HX := hide hX
    have HU := hide h
    have Hi := hide hi
    have Hj := hide hj
    have Hjl := hide hjl
    have Ks := hide ks
    have Kx := hide kx
    clear ks kx
    have hjs8 : (js.length : Int) < 8 := by omega
    have hjs7 : js.length ≤ 8 := by omega
    have hgl := hX.blk.lt
    have HC := hide (fun w2 (hb : Below w.heap.size w w2) => clone_ids (w := w2) (HI2.out.below hb) (by simp; omega))
    simp only [List.length_map] at HC
    obtain ⟨iI, hiI, hI0, hI1, hI2⟩ := info_parts infoID8
    clear h h1 h2 hs hx hi hj hX ha hAI hjl hSrt h8
    go_enter Tryz.func78, Tryz.ntmps78
    go_wp2_with (first
      | (go_at_call 60; with_reducible refine HI.out.mono ?_; rintro e w1 ⟨rfl, rfl⟩)
      | (go_at_call 60; with_reducible refine HJ.out.mono ?_; rintro e w1 ⟨rfl, rfl⟩)
      | (go_at_call 106; refine (HC.out _ (by (repeat (first | exact Below.refl _ _ | refine below_drewN ?_ _ | refine Below.drew ?_ | refine Below.alloc ?_ (by first | omega | (simp; done) | (simp; omega)) _ | refine Below.setCell ?_ (by first | omega | (simp; done) | (simp; omega)) _ | refine bel_alloc ?_ _ | refine bel_trans ?_ (by assumption) | refine Below.trans ?_ (Below.mono (by assumption) (by first | omega | (simp; done) | (simp; omega))))))).mono ?_; rintro e w1 ⟨v', rfl, hown, hb1⟩; obtain ⟨A1, d1, rfl⟩ := own_sl hown; have hz1 := hb1.size)
      | (at_builtin; refine wpList_append_any _ rfl (.tmp 38) (.tmp 40) _ rfl w.heap.size 34 iI (.int .i64 0) 1 8 Tryz.underlying28 hiI hI0 hI1 hI2 rfl (by decide) (.slice A1 js.length d1) js.length ((js.map Int.ofNat).map (Value.int .i64)) rfl (hown.alloc _) _ (some ⟨w1.heap.size, 0, none⟩) 1 1 [.int .i64 j] rfl (reads_blk (Blk.new w1 _ _) rfl) (by simp [Value.oneCell']) (by unfold maxLen; omega) (by omega) (by simp; omega) ?_; intro v2 w2 hown2 hgr2 hat2; have hlo := fun i hi => (hown.lt i hi).1; clear hown))
    have hb2 : Below w.heap.size w w2 := (hb1.alloc hb1.size _).grown hgr2 (by simp; omega) hlo
    have hown3 : w2.ownsRow w.heap.size 34 1 v2 (js.length + 1) (((js ++ [j]).map Int.ofNat).map (Value.int .i64)) := by simpa using hown2
    obtain ⟨gb, cap2, rfl, hgb, hRow⟩ := own_row hown3 (by simp) (by omega)
    have hSgb : ¬ S gb := fun hc => by
      have := HU.out.ar.sL gb hc
      omega
    refine (sortf_any (HU.out.ar.below hb2) HS.out rfl (by omega) hSgb hRow).mono ?_
    rintro e w3 ⟨rfl, vs, hf, hw3⟩
    have hb3 : Below w.heap.size w w3 := below_only hb2 hw3.1 hgb hb2.size
    have hvl : vs.length = js.length + 1 := by
      have h1 : vs.length = (ins x s.l).length := hf.len
      rw [h1, ins_len, Hjl.out]
    have hI3 : Ids w3 (.slice (some ⟨gb, 0, none⟩) (js.length + 1) cap2) (vs.map Int.ofNat) := hw3.ids hvl.symm
    have hsz : s.s.size ≤ 1000000 := by
      have h1 := (share_good (HU.out.ar.ok.fine s (List.mem_of_getElem? Hi.out)).1 Ks.out).1
      simp only [hd] at h1
      omega
    have hno := nodeO_exp HU.out.ar.ok (List.mem_of_getElem? Hi.out) (List.mem_of_getElem? Hj.out) Ks.out Kx.out hl8 hf
    have hvl2 : (vs.map Int.ofNat).length ≤ 40 := by rw [List.length_map, hvl]; omega
    have HP := hide (put_at HU.out hb3 hI3 (k := 5) (a := 0) (b := 0) (s := s.s) (by omega) (by omega) hsz hvl2 hno.2 5 0 0 rfl rfl rfl)
    have HNo := hide hno.1
    have d0 := cellB_ hb3 h0
    have d3 := cellB_ hb3 c3
    clear hno hI3 hw3 hf hvl hvl2 hb2 hown2 hown3 hgr2 hat2 hRow h0 c0 c1 c2 c3 c4 hlo hb1
    go_wp2_with (go_at_call 56; refine HP.out.mono ?_; rintro e w4 ⟨T', n', S', rfl, hp, hA, hG⟩)
    go_ret
    rw [← HNo.out]
    exact ⟨T', _, S', rfl, hp, hA, hG⟩
  · have Hn := hide (Done.none_ h.ar (Below.refl _ _))
    have Ho := hide (show tExp (some s) (some x) = none by
      show (if _ then _ else none) = none
      rw [if_neg (fun hc => hl8 hc.2.2)])
    have hjs8 : ¬ (js.length : Int) < 8 := by omega
    clear h h1 h2 hs hx hi hj hX ha hAI hjl h8
    go_enter Tryz.func78, Tryz.ntmps78
    go_wp2_with (first
      | (go_at_call 60; with_reducible refine HI.out.mono ?_; rintro e w1 ⟨rfl, rfl⟩)
      | (go_at_call 60; with_reducible refine HJ.out.mono ?_; rintro e w1 ⟨rfl, rfl⟩))
    go_ret
    rw [Ho.out]
    exact Hn.out
end
end Go.Proofs.YtkpikfdfekggbaaGreatDoor
