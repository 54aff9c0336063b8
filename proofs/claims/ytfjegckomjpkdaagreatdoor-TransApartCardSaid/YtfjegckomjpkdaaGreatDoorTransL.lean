/-
  The contracts of trans's List and Hash. Conditions: texts of at most 300,000 bytes.
-/
import Derived.Test.YtfjegckomjpkdaaGreatDoorTrans
set_option linter.unusedVariables false
set_option linter.unusedSimpArgs false
namespace Go.Proofs.YtfjegckomjpkdaaGreatDoor
open Go.RowKit Go.ChangeShapes Go.WideShapes Go.Sort

theorem Idns.app {T : List Tm} {ms ms' : List (Option Tm)} {ns ns' : List Int} (h : Idns T ms ns) (h' : Idns T ms' ns') : Idns T (ms ++ ms') (ns ++ ns') := by
  refine ⟨by simp [h.1, h'.1], fun i o n h1 h2 => ?_⟩
  rcases Nat.lt_or_ge i ms.length with hlt | hge
  · rw [List.getElem?_append_left hlt] at h1
    rw [List.getElem?_append_left (by rw [h.1]; exact hlt)] at h2
    exact h.2 i o n h1 h2
  · rw [List.getElem?_append_right hge] at h1
    rw [List.getElem?_append_right (by rw [h.1]; exact hge), h.1] at h2
    exact h'.2 _ o n h1 h2
theorem idns_one {T : List Tm} {o : Option Tm} {n : Int} (h : Idn T o n) : Idns T [o] [n] := (idns_nil T).snoc h
theorem idns_three {T : List Tm} {o p q : Option Tm} {n m k : Int} (h : Idn T o n) (h' : Idn T p m) (h'' : Idn T q k) : Idns T [o, p, q] [n, m, k] := (((idns_nil T).snoc h).snoc h').snoc h''
/-- A list of terms that grows: behind an append. -/
theorem ido_app {B g : Nat} {w wx w' : World} {T1 : List Tm} {S S1 : Nat → Prop} {os1 os2 : List (Option Tm)} {ns ms : List Int} {v v' : Value} {k : Nat}
    (ho : wx.ownsRow w.heap.size 34 1 v os1.length (ns.map (Value.int .i64))) (hi1 : Idns T1 os1 ns) (hout : ∀ i, v.ownBlock = some i → ¬ S1 i) (hi2 : Idns T1 os2 ms) (hk : Kp B w g T1 S S1 wx)
    (hown : w'.ownsRow w.heap.size 34 1 v' k (ns.map (Value.int .i64) ++ ms.map (Value.int .i64))) (hkk : k = os1.length + os2.length) (hgr : wx.grownBy w' v.ownBlock) (hor : v'.ownBlock = v.ownBlock ∨ v'.ownBlock = some wx.heap.size) :
    IdO w.heap.size w' T1 (os1 ++ os2) v' S1 ∧ Kp B w g T1 S S1 w' := by
  subst hkk
  refine ⟨⟨⟨ns ++ ms, by simpa using hown, hi1.app hi2⟩, at_new hor hout hk.ar.sL⟩, hk.step hgr fun b e => ⟨(ho.lt b e).1, hout b e⟩⟩
/-- What List and Hash answer: a term, some terms more. -/
def DoneL (B : Nat) (w : World) (g : Nat) (T : List Tm) (S : Nat → Prop) (o : Option Tm) (m : Nat) (e : Ending) (w' : World) : Prop :=
  ∃ T' n S', e = .returned (.int .i64 n) ∧ Idn T' o n ∧ T <+: T' ∧ T'.length ≤ T.length + m ∧ Ar B w' g T' S' ∧ Grown S w S' w'
/-- A list of terms that is being made. -/
def LstI (B : Nat) (w : World) (g : Nat) (T : List Tm) (S : Nat → Prop) (os : List (Option Tm)) (m : Nat) (v : Value) (wx : World) : Prop :=
  ∃ T' S' A c, v = .slice A os.length c ∧ IdO w.heap.size wx T' os v S' ∧ T <+: T' ∧ T'.length ≤ T.length + m ∧ Kp B w g T' S S' wx
section
variable {B g : Nat} {w : World} {T : List Tm} {S : Nat → Prop}
theorem Kp.below_ {S0 : Nat → Prop} {wx W : World} (h : Kp B w g T S0 S wx) (hb : Below wx.heap.size wx W) : Kp B w g T S0 S W := ⟨h.ar.below hb, h.grown.trans (Grown.of_below hb)⟩
theorem lst_app {x6 wx w7 : World} {T9 : List Tm} {S9 : Nat → Prop} {os os2 : List (Option Tm)} {ns ms : List Int} {A9 A7 : Option Addr} {n9 c9 c7 k m : Nat}
    (h9 : IdO w.heap.size x6 T9 os (.slice A9 n9 c9) S9 ∧ T <+: T9 ∧ T9.length ≤ T.length + m ∧ Ar B x6 g T9 S9 ∧ Grown S w S9 x6) (hb : Below x6.heap.size x6 wx)
    (ho : wx.ownsRow w.heap.size 34 1 (.slice A9 n9 c9) os.length (ns.map (Value.int .i64))) (hid : Idns T9 os ns) (hi2 : Idns T9 os2 ms)
    (hown : w7.ownsRow w.heap.size 34 1 (.slice A7 k c7) k (ns.map (Value.int .i64) ++ ms.map (Value.int .i64))) (hkk : k = os.length + os2.length) (hgr : wx.grownBy w7 (Value.slice A9 n9 c9).ownBlock) (hor : (Value.slice A7 k c7).ownBlock = (Value.slice A9 n9 c9).ownBlock ∨ (Value.slice A7 k c7).ownBlock = some wx.heap.size) :
    LstI B w g T S (os ++ os2) m (.slice A7 k c7) w7 := by
  obtain ⟨h1, h2, h3, h4, h5⟩ := h9
  have hk : Kp B w g T9 S S9 wx := Kp.below_ ⟨h4, h5⟩ hb
  obtain ⟨h6, h7⟩ := ido_app ho hid h1.out hi2 hk hown hkk hgr hor
  exact ⟨T9, S9, A7, c7, by rw [List.length_append, hkk], h6, h2, h3, h7⟩
theorem blk_at {W W' : World} {b : Nat} {t : TypeId} {cs : Array Value} (hb : b = W.heap.size) (h : Below (W.heap.size + 1) (W.alloc (.cells cs t)) W') : Blk W' b t cs := by
  subst hb
  exact (Blk.new W t cs).below h (Nat.lt_succ_self _)
/-- A key's number, in a block of its own. -/
theorem ones_reads {wx : World} {b : Nat} {t : TypeId} {n : Int} (h : Blk wx b t #[.int .i64 n]) : Reads wx wx.heap.size 1 (some ⟨b, 0, none⟩) 1 [.int .i64 n] := reads_blk h rfl
theorem DataP.open2 {os : List (Option Tm)} {e : Ending} {w' : World} (h : DataP B w g T S os e w') : ∃ T' S' A c n ns, n = os.length ∧ e = .returned (.slice A n c) ∧ w'.ownsRow w.heap.size 34 1 (.slice A n c) n (ns.map (Value.int .i64)) ∧ Idns T' os ns ∧ T <+: T' ∧ T'.length ≤ T.length + os.length ∧ Ar B w' g T' S' ∧ Grown S w S' w' := by
  obtain ⟨T', S', A, c, h1, h2, h3, h4, h5, h6⟩ := h.open_
  obtain ⟨ns, h7, h8⟩ := h2.ids
  exact ⟨T', S', A, c, _, ns, rfl, h1, h7, h8, h3, h4, h5, h6⟩
theorem askO_len (p : PartsP) : (askO p).length ≤ 5 := by
  unfold askO
  split <;> simp
theorem cells14 {w : World} {b : Nat} {t : TypeId} {v0 v1 v2 v3 v4 v5 v6 v7 v8 v9 v10 v11 v12 v13 : Value} (h : Blk w b t #[v0, v1, v2, v3, v4, v5, v6, v7, v8, v9, v10, v11, v12, v13]) : w.cell? ⟨b, 0, none⟩ = some v0 ∧ w.cell? ⟨b, 1, none⟩ = some v1 ∧ w.cell? ⟨b, 2, none⟩ = some v2 ∧ w.cell? ⟨b, 3, none⟩ = some v3 ∧ w.cell? ⟨b, 4, none⟩ = some v4 ∧ w.cell? ⟨b, 5, none⟩ = some v5 ∧ w.cell? ⟨b, 6, none⟩ = some v6 ∧ w.cell? ⟨b, 7, none⟩ = some v7 ∧ w.cell? ⟨b, 8, none⟩ = some v8 ∧ w.cell? ⟨b, 9, none⟩ = some v9 ∧ w.cell? ⟨b, 10, none⟩ = some v10 ∧ w.cell? ⟨b, 11, none⟩ = some v11 ∧ w.cell? ⟨b, 12, none⟩ = some v12 ∧ w.cell? ⟨b, 13, none⟩ = some v13 :=
  ⟨h.cell 0, h.cell 1, h.cell 2, h.cell 3, h.cell 4, h.cell 5, h.cell 6, h.cell 7, h.cell 8, h.cell 9, h.cell 10, h.cell 11, h.cell 12, h.cell 13⟩
theorem asked_any (h : Use B w g T S) (p : PartsP) (nk ne nf ns : Int) (hf : PFit p) (hT : T.length ≤ 100000000) : Calls Tryz.prog 73 #[.pointer (some ⟨g, 0, none⟩), partsV p nk ne nf ns] w (DataP B w g T S (askO p)) := by
  cases e : p.asks with
  | false => exact asked_no h p nk ne nf ns e
  | true => exact asked_yes h p nk ne nf ns hf e hT
/-- data, called with texts that stand in a block of the call's own. -/
theorem data_blk (h : Use B w g T S) {W : World} (hb : Below w.heap.size w W) (ss : List ByteArray) (hz : ∀ s ∈ ss, s.size ≤ 1000000) (hl : ss.length ≤ 1000) (hT : T.length + ss.length ≤ 1000000000) (b : Nat) (t : TypeId) (C : Array Value) (hC : C = (ss.map Value.string).toArray) (hB : Blk W b t C) (hbw : w.heap.size ≤ b) (n : Nat) (hn : n = ss.length) (os : List (Option Tm)) (ho : os = ss.map tData) :
    Calls Tryz.prog 72 #[.pointer (some ⟨g, 0, none⟩), .slice (some ⟨b, 0, none⟩) n n] W (fun e w' => DataP B w g T S os e w' ∧ Outs S W w') := by
  subst hC hn ho
  have hs : Sl b W 1 (some ⟨b, 0, none⟩) ss.length (ss.map Value.string) := by
    refine ⟨by simp, fun _ => ⟨_, rfl, Nat.le_refl _, hB.lt, fun j u hu => ?_⟩⟩
    rw [add_zero_, hB.cell j]
    simpa using hu
  refine (data_any (h.below hb) hs (fun i hi => Nat.lt_of_lt_of_le (h.ar.sL i hi) hbw) hz hl hT).mono fun e w' hd => ⟨hd.from_ hb, ?_⟩
  obtain ⟨T', S', v, _, _, _, _, _, hg⟩ := hd
  exact hg.outs_
set_option maxHeartbeats 16000000 in
set_option maxRecDepth 100000 in
theorem list_any (h : Use B w g T S) (p : PartsP) {nk ne nf ns : Int} (hf : PFit p) (hk : Idn T p.key nk) (he : Idn T p.e ne) (hff : Idn T p.f nf) (hs : Idn T p.k ns) (hT : T.length ≤ 10000000) :
    Calls Tryz.prog 46 #[.pointer (some ⟨g, 0, none⟩), partsV p nk ne nf ns] w (DoneL B w g T S (transO p) 10) := by
  unfold partsV
  have hwit : Below w.heap.size w (w.alloc (.cells #[.string p.v0, .string p.v1, .string p.v2, .string p.v3, .int .i64 nk, .bool p.asks, .int .u32 p.w0, .int .u32 p.w1, .int .u32 p.w2, .string p.gp, .string p.gg, .int .i64 ne, .int .i64 nf, .int .i64 ns] 86)) := (Below.refl _ _).alloc (Nat.le_refl _) _
  have hU0 := h.below hwit
  have hSL := h.ar.sL
  clear hwit
  go_enter Tryz.func46, Tryz.ntmps46
  go_wp2_with fail
  have hbk := Blk.new w 86 #[.string p.v0, .string p.v1, .string p.v2, .string p.v3, .int .i64 nk, .bool p.asks, .int .u32 p.w0, .int .u32 p.w1, .int .u32 p.w2, .string p.gp, .string p.gg, .int .i64 ne, .int .i64 nf, .int .i64 ns]
  have hbel := bel_new (w := w) (.cells #[.string p.v0, .string p.v1, .string p.v2, .string p.v3, .int .i64 nk, .bool p.asks, .int .u32 p.w0, .int .u32 p.w1, .int .u32 p.w2, .string p.gp, .string p.gg, .int .i64 ne, .int .i64 nf, .int .i64 ns] 86)
  have hz0 : (w.alloc (.cells #[.string p.v0, .string p.v1, .string p.v2, .string p.v3, .int .i64 nk, .bool p.asks, .int .u32 p.w0, .int .u32 p.w1, .int .u32 p.w2, .string p.gp, .string p.gg, .int .i64 ne, .int .i64 nf, .int .i64 ns] 86)).heap.size = w.heap.size + 1 := by simp
  generalize w.alloc (.cells #[.string p.v0, .string p.v1, .string p.v2, .string p.v3, .int .i64 nk, .bool p.asks, .int .u32 p.w0, .int .u32 p.w1, .int .u32 p.w2, .string p.gp, .string p.gg, .int .i64 ne, .int .i64 nf, .int .i64 ns] 86) = W0 at hU0 hbk hbel hz0 ⊢
  have nS : ∀ i, w.heap.size ≤ i → ¬ S i := fun i h1 h2 => by have := hSL i h2; omega
  have hlen4 : ([tData p.v0, tData p.v1, tData p.v2, tData p.v3] : List (Option Tm)).length = 4 := rfl
  have HD := hide (fun (W : World) (hb : Below W0.heap.size W0 W) (b : Nat) (hB : Blk W b 9 #[.string p.v0, .string p.v1, .string p.v2, .string p.v3]) (hbw : W0.heap.size ≤ b) => data_blk hU0 hb [p.v0, p.v1, p.v2, p.v3] (by
      have h0 := hf.v0
      have h1 := hf.v1
      have h2 := hf.v2
      have h3 := hf.v3
      intro s hs
      simp only [List.mem_cons, List.not_mem_nil, or_false] at hs
      rcases hs with rfl | rfl | rfl | rfl <;> assumption) (by simp) (by simp; omega) b 9 #[.string p.v0, .string p.v1, .string p.v2, .string p.v3] rfl hB hbw 4 rfl [tData p.v0, tData p.v1, tData p.v2, tData p.v3] rfl)
  have KC := hide (fun (W : World) (ho : Outs S W0 W) => ((⟨ho.cell (hbk.cell 0) (nS _ (Nat.le_refl _)), ho.cell (hbk.cell 1) (nS _ (Nat.le_refl _)), ho.cell (hbk.cell 2) (nS _ (Nat.le_refl _)), ho.cell (hbk.cell 3) (nS _ (Nat.le_refl _)), ho.cell (hbk.cell 4) (nS _ (Nat.le_refl _))⟩) :
    W.cell? ⟨w.heap.size, 0, none⟩ = some (.string p.v0) ∧ W.cell? ⟨w.heap.size, 1, none⟩ = some (.string p.v1) ∧ W.cell? ⟨w.heap.size, 2, none⟩ = some (.string p.v2) ∧ W.cell? ⟨w.heap.size, 3, none⟩ = some (.string p.v3) ∧ W.cell? ⟨w.heap.size, 4, none⟩ = some (.int .i64 nk)))
  have K0 := hide (fun (W : World) (hb : Below W0.heap.size W0 W) => KC.out W (Outs.of_below hb))
  obtain ⟨iI, hiI, hI0, hI1, hI2⟩ := info_parts infoIDr
  have Hk := hide hk
  have He := hide he
  have Hff := hide hff
  have Hs := hide hs
  have Hf := hide hf
  have HU := hide hU0
  have Hbk := hide hbk
  clear h hU0 hk he hff hs hf hbk
  go_cut [5] (fun v wx => LstI B W0 g T S [tData p.v0, tData p.v1, tData p.v2, tData p.v3, p.key] 4 v wx)
  case first =>
    as_aux_lemma =>
    go_region_held3 (fun W => W.cell? ⟨w.heap.size, 0, none⟩ = some (.string p.v0) ∧ W.cell? ⟨w.heap.size, 1, none⟩ = some (.string p.v1) ∧ W.cell? ⟨w.heap.size, 2, none⟩ = some (.string p.v2) ∧ W.cell? ⟨w.heap.size, 3, none⟩ = some (.string p.v3) ∧ W.cell? ⟨w.heap.size, 4, none⟩ = some (.int .i64 nk))
      (first | (refine K0.out _ ?_; (repeat (first | exact Below.refl _ _ | refine below_drewN ?_ _ | refine Below.drew ?_ | refine Below.alloc ?_ (by first | omega | (simp; done) | (simp; omega)) _ | refine Below.setCell ?_ (by first | omega | (simp; done) | (simp; omega)) _ | refine bel_alloc ?_ _ | refine bel_trans ?_ (by assumption) | refine Below.trans ?_ (Below.mono (by assumption) (by first | omega | (simp; done) | (simp; omega))))); done) | exact KC.out _ hO6 | exact KC.out _ (hO6.alloc _) | exact KC.out _ hO7)
      (first
        | (go_at_call 72; refine (HD.out _ (by (repeat (first | exact Below.refl _ _ | refine below_drewN ?_ _ | refine Below.drew ?_ | refine Below.alloc ?_ (by first | omega | (simp; done) | (simp; omega)) _ | refine Below.setCell ?_ (by first | omega | (simp; done) | (simp; omega)) _ | refine bel_alloc ?_ _ | refine bel_trans ?_ (by assumption) | refine Below.trans ?_ (Below.mono (by assumption) (by first | omega | (simp; done) | (simp; omega)))))) _ (by first | exact blk_at (W := W0) hz0.symm (by (repeat (first | exact Below.refl _ _ | refine below_drewN ?_ _ | refine Below.drew ?_ | refine Below.alloc ?_ (by first | omega | (simp; done) | (simp; omega)) _ | refine Below.setCell ?_ (by first | omega | (simp; done) | (simp; omega)) _ | refine bel_alloc ?_ _ | refine bel_trans ?_ (by assumption) | refine Below.trans ?_ (Below.mono (by assumption) (by first | omega | (simp; done) | (simp; omega)))))) | exact blk_at (W := W0.alloc (.cells #[.int .i64 nk] 34)) (by simp; omega) (by (repeat (first | exact Below.refl _ _ | refine below_drewN ?_ _ | refine Below.drew ?_ | refine Below.alloc ?_ (by first | omega | (simp; done) | (simp; omega)) _ | refine Below.setCell ?_ (by first | omega | (simp; done) | (simp; omega)) _ | refine bel_alloc ?_ _ | refine bel_trans ?_ (by assumption) | refine Below.trans ?_ (Below.mono (by assumption) (by first | omega | (simp; done) | (simp; omega))))))) (by omega)).mono ?_; rintro e x6 ⟨hdp, hO9⟩; obtain ⟨T9, S9, A9, c9, rfl, h9⟩ := hdp.open_; rw [hlen4]; obtain ⟨ns9, ho9, hid9⟩ := h9.1.ids; rw [hlen4] at ho9; have hs9 := hO9.size; simp [hz0] at hs9; have hO6 : Outs S W0 x6 := Outs.trans (Outs.of_below (by (repeat (first | exact Below.refl _ _ | refine below_drewN ?_ _ | refine Below.drew ?_ | refine Below.alloc ?_ (by first | omega | (simp; done) | (simp; omega)) _ | refine Below.setCell ?_ (by first | omega | (simp; done) | (simp; omega)) _ | refine bel_alloc ?_ _ | refine bel_trans ?_ (by assumption) | refine Below.trans ?_ (Below.mono (by assumption) (by first | omega | (simp; done) | (simp; omega))))))) hO9)
        | (refine step_append_any _ rfl (.tmp 16) (.tmp 19) _ (by rfl) W0.heap.size 34 iI (.int .i64 0) 1 8 Tryz.underlying28 hiI hI0 hI1 hI2 (by rfl) (by decide) (.slice A9 4 c9) 4 (ns9.map (Value.int .i64)) (by rfl) (by first | exact ho9 | exact ho9.alloc _) _ (some ⟨_, 0, none⟩) 1 1 [.int .i64 nk] (by rfl) (by first | exact reads_blk (Blk.new _ _ _) rfl | exact ones_reads (hO9.blk (by first | exact blk_at (W := W0) hz0.symm (by (repeat (first | exact Below.refl _ _ | refine below_drewN ?_ _ | refine Below.drew ?_ | refine Below.alloc ?_ (by first | omega | (simp; done) | (simp; omega)) _ | refine Below.setCell ?_ (by first | omega | (simp; done) | (simp; omega)) _ | refine bel_alloc ?_ _ | refine bel_trans ?_ (by assumption) | refine Below.trans ?_ (Below.mono (by assumption) (by first | omega | (simp; done) | (simp; omega)))))) | exact blk_at (W := W0.alloc (.cells #[.string p.v0, .string p.v1, .string p.v2, .string p.v3] 9)) (by simp; omega) (by (repeat (first | exact Below.refl _ _ | refine below_drewN ?_ _ | refine Below.drew ?_ | refine Below.alloc ?_ (by first | omega | (simp; done) | (simp; omega)) _ | refine Below.setCell ?_ (by first | omega | (simp; done) | (simp; omega)) _ | refine bel_alloc ?_ _ | refine bel_trans ?_ (by assumption) | refine Below.trans ?_ (Below.mono (by assumption) (by first | omega | (simp; done) | (simp; omega))))))) (nS _ (by omega)))) (by simp [Value.oneCell']) (by unfold maxLen; omega) (by omega) (by first | omega | (simp; omega)) ?_; intro v7 w7 hown7 hgr7 hor7; have hO7 : Outs S W0 w7 := Outs.grown (by first | exact hO6 | exact hO6.alloc _) hgr7 (fun b e => .inr (ho9.lt b e).1); obtain ⟨A7, c7, rfl⟩ := own_sl hown7)
        | fail)
    all_goals go_wp2_with fail
    all_goals go_meet
    all_goals exact lst_app h9 (by (repeat (first | exact Below.refl _ _ | refine below_drewN ?_ _ | refine Below.drew ?_ | refine Below.alloc ?_ (by first | omega | (simp; done) | (simp; omega)) _ | refine Below.setCell ?_ (by first | omega | (simp; done) | (simp; omega)) _ | refine bel_alloc ?_ _ | refine bel_trans ?_ (by assumption) | refine Below.trans ?_ (Below.mono (by assumption) (by first | omega | (simp; done) | (simp; omega)))))) (by first | exact ho9 | exact ho9.alloc _) hid9 (idns_one (Hk.out.pre h9.2.1)) hown7 rfl hgr7 hor7
  case rest =>
    obtain ⟨wx, rfl⟩ : ∃ wx : World, wx = wc := ⟨wc, rfl⟩
    obtain ⟨T5, S5, A5, c5, hv5, h5, hpre5, hlen5, hkp5⟩ := hcut
    rw [show [tData p.v0, tData p.v1, tData p.v2, tData p.v3, p.key].length = 5 from rfl] at hv5
    subst hv5
    have HLN := hide hlen4
    clear hlen4 HD KC K0
    have hg5 := hkp5.grown
    have hU5 : Use B wx g T5 S5 := HU.out.grown hg5 hkp5.ar (by omega)
    have hx5 := hg5.outs_.blk Hbk.out (nS _ (Nat.le_refl _))
    have HA := hide (asked_any hU5 p nk ne nf ns Hf.out (by omega))
    have hsz5 := hg5.size
    have hwB : W0.heap.size ≤ wx.heap.size := hsz5
    have HX5 := hide hx5
    obtain ⟨k0, k1, k2, k3, k4, k5, k6, k7, k8, k9, k10, k11, k12, k13⟩ := cells14 hx5
    obtain ⟨ns5, ho5, hid5⟩ := h5.ids
    have HO5 := hide (And.intro h5 (And.intro hpre5 (And.intro hlen5 hkp5)))
    clear h5 hpre5 hlen5 hkp5 hx5 hg5 hU5 ho5 hid5
    go_wp2_with (first
      | (go_at_call 73; refine HA.out.mono ?_; rintro e x7 hdp; rename_i hKK; obtain ⟨T6, S6, A6, c6, k6, ns6, hk6, rfl, ho6, hid6, hpre6, hlen6, hA6, hG6⟩ := hdp.open2; obtain ⟨h5, hpre5, hlen5, hkp5⟩ := HO5.out; have h57 := h5.grown hG6 hpre6; obtain ⟨ns7, ho7, hid7⟩ := h57.ids; have ho7 : x7.ownsRow W0.heap.size 34 1 (.slice A5 5 c5) 5 (ns7.map (Value.int .i64)) := ho7; have hs7 := hG6.size; have hk65 : k6 ≤ 5 := hk6 ▸ askO_len p; have Hk6 := hide hk6; clear hk6; dsimp only; refine hKK _ _ ?_; refine wpList_append_any _ rfl (.tmp 21) (.tmp 24) _ rfl W0.heap.size 34 iI (.int .i64 0) 1 8 Tryz.underlying28 hiI hI0 hI1 hI2 rfl (by decide) (.slice A5 5 c5) 5 (ns7.map (Value.int .i64)) rfl ho7 _ A6 k6 c6 (ns6.map (Value.int .i64)) rfl (Reads.of_own ho6) (fun u hu => by obtain ⟨x, _, rfl⟩ := List.mem_map.1 hu; rfl) (by unfold maxLen; omega) (by omega) (by omega) ?_; intro v8 w8 hown8 hgr8 hor8; obtain ⟨A8, c8, rfl⟩ := own_sl hown8; have hL8 := lst_app (m := 9) ⟨h57, hpre5.trans hpre6, (by have := askO_len p; omega), hA6, hkp5.grown.trans hG6⟩ (Below.refl _ _) ho7 hid7 hid6 hown8 (by rw [Hk6.out]; rfl) hgr8 hor8; obtain ⟨T8, S8, A8', c8', hv8, h8, hpre8, hlen8, hkp8⟩ := hL8; have hx8 := hkp8.grown.outs_.blk Hbk.out (nS _ (Nat.le_refl _)); have j11 := hx8.cell 11; have j12 := hx8.cell 12; have j13 := hx8.cell 13; simp only [List.getElem?_toArray, List.getElem?_cons_succ, List.getElem?_cons_zero] at j11 j12 j13; obtain ⟨ns8, ho8, hid8⟩ := h8.ids; have hs8 := hkp8.grown.size; have hl8 : ([tData p.v0, tData p.v1, tData p.v2, tData p.v3, p.key] ++ askO p).length = 5 + k6 := (by rw [List.length_append, Hk6.out]; rfl); rw [hl8] at ho8; have H8 := hide (And.intro h8 (And.intro hpre8 (And.intro hlen8 (And.intro hkp8 hid8)))); have HL8 := hide hl8; clear hl8 h8 hkp8 hid8 hv8 h57 hpre5 hlen5 hkp5 hid7 hid6 hA6 hG6 hx8 hpre8)
      | (at_builtin; refine wpList_append_any _ rfl (.tmp 27) (.tmp 34) _ rfl W0.heap.size 34 iI (.int .i64 0) 1 8 Tryz.underlying28 hiI hI0 hI1 hI2 rfl (by decide) (.slice A8 (5 + k6) c8) (5 + k6) (ns8.map (Value.int .i64)) rfl (ho8.alloc _) _ (some ⟨_, 0, none⟩) 3 3 [.int .i64 ne, .int .i64 nf, .int .i64 ns] rfl (reads_blk (Blk.new _ _ _) rfl) (by simp [Value.oneCell']) (by unfold maxLen; omega) (by omega) (by simp; omega) ?_; intro v9 w9 hown9 hgr9 hor9; obtain ⟨k9, hk9⟩ : ∃ k9, 5 + k6 + 3 = k9 := ⟨_, rfl⟩; rw [hk9] at hown9; obtain ⟨A9, c9, rfl⟩ := own_sl hown9; obtain ⟨h8, hpre8, hlen8, hkp8, hid8⟩ := H8.out; have hL9 := lst_app (m := 9) (os2 := [p.e, p.f, p.k]) (ms := [ne, nf, ns]) ⟨h8, hpre8, hlen8, hkp8.ar, hkp8.grown⟩ (bel_new (.cells #[.int .i64 ne, .int .i64 nf, .int .i64 ns] 34)) (by rw [HL8.out]; exact ho8.alloc _) hid8 (idns_three (He.out.pre hpre8) (Hff.out.pre hpre8) (Hs.out.pre hpre8)) hown9 (by rw [HL8.out, ← hk9]; rfl) hgr9 hor9; obtain ⟨T9, S9, A9', c9', hv9, h9, hpre9, hlen9, hkp9⟩ := hL9; obtain ⟨ns9, ho9, hid9⟩ := h9.ids; have hl9 : ([tData p.v0, tData p.v1, tData p.v2, tData p.v3, p.key] ++ askO p ++ [p.e, p.f, p.k]).length = k9 := (by rw [List.length_append, HL8.out, ← hk9]; rfl); rw [hl9] at ho9; have hU9 : Use B w9 g T9 S9 := HU.out.grown hkp9.grown hkp9.ar (by omega); have hn9 : ns9.length = k9 := hid9.1.trans hl9; have HLL := hide (aList_any hU9 (own_ids hn9.symm ho9) (by omega)); have HAR := hide hid9.args; have HX9 := hide (And.intro h9 (And.intro hpre9 (And.intro hlen9 hkp9))); clear hk9 hid9 hU9 hn9 hl9 ho9 h9 hpre9 hlen9 hkp9 hv9 h8 hpre8 hlen8 hkp8 hid8 hgr9 hor9)
      | (go_at_call 68; refine HLL.out.mono ?_; rintro e w10 ⟨T10, n10, S10, rfl, hp10, hA10, hG10⟩)
      | fail)
    go_ret
    obtain ⟨h9, hpre9, hlen9, hkp9⟩ := HX9.out
    have hO : tList (List.map (arg T9) ns9) = transO p := by rw [HAR.out]; rfl
    rw [hO] at hp10
    exact ⟨T10, n10, S10, rfl, hp10.idn, hpre9.trans hp10.pre, by have := hp10.len; omega, hA10, (Grown.of_below hbel).trans (hkp9.grown.trans hG10)⟩
theorem hash_any (h : Use B w g T S) (p : PartsP) {nk ne nf ns : Int} (hf : PFit p) (hk : Idn T p.key nk) (he : Idn T p.e ne) (hff : Idn T p.f nf) (hs : Idn T p.k ns) (hT : T.length ≤ 10000000) :
    Calls Tryz.prog 44 #[.pointer (some ⟨g, 0, none⟩), partsV p nk ne nf ns] w (DoneL B w g T S (hashO p) 11) := by
  have HL := hide (fun (W : World) (hb : Below w.heap.size w W) => list_any (h.below hb) p hf (hk) he hff hs hT)
  have HU := hide h
  clear h hf hk he hff hs
  unfold partsV at *
  unfold hashO
  go_enter Tryz.func44, Tryz.ntmps44
  go_wp2_with (first
    | (go_at_call 46; refine (HL.out _ (by (repeat (first | exact Below.refl _ _ | refine below_drewN ?_ _ | refine Below.drew ?_ | refine Below.alloc ?_ (by first | omega | (simp; done) | (simp; omega)) _ | refine Below.setCell ?_ (by first | omega | (simp; done) | (simp; omega)) _ | refine bel_alloc ?_ _ | refine bel_trans ?_ (by assumption) | refine Below.trans ?_ (Below.mono (by assumption) (by first | omega | (simp; done) | (simp; omega))))))).mono ?_; rintro e w1 ⟨T1, n1, S1, rfl, hi1, hp1, hl1, hA1, hG1⟩; have hb1 := (Grown.of_below (S := S) (bel_new (w := w) _)).trans hG1; have hU1 : Use B w1 g T1 S1 := HU.out.grown hb1 hA1 (by omega); have HH := hide (aHash_any hU1 n1); rw [hi1.1] at HH)
    | (go_at_call 25; refine HH.out.mono ?_; rintro e w2 ⟨T2, n2, S2, rfl, hp2, hA2, hG2⟩)
    | fail)
  go_ret
  exact ⟨T2, n2, S2, rfl, hp2.idn, hp1.trans hp2.pre, by have := hp2.len; omega, hA2, hb1.trans hG2⟩
end
end Go.Proofs.YtfjegckomjpkdaaGreatDoor
