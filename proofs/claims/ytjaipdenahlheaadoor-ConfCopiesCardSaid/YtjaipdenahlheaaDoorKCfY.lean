/-
  The law ConfCopies: the walk of the statement. Conditions: the listed variables are there.
-/
import Derived.Test.YtjaipdenahlheaaDoorKCfX
import Derived.Test.YtjaipdenahlheaaDoorKCfZ
import Derived.Test.YtjaipdenahlheaaDoorKCfN
import Derived.Test.YtjaipdenahlheaaDoorKCfS
import Derived.Test.YtjaipdenahlheaaDoorKInit
set_option linter.unusedVariables false
set_option linter.unusedSimpArgs false
namespace Go.Proofs.YtjaipdenahlheaaDoor
open Go.RowKit Go.ChangeShapes Go.WideShapes Go.Sort
theorem add_next (ad : Addr) (m : Nat) : ad.add (m + 1) = ⟨(ad.add m).block, (ad.add m).off + 1, none⟩ := by
  unfold Addr.add
  by_cases h : m = 0 <;> simp [h, Nat.add_assoc]
theorem grc_own {w : World} {lo c : Nat} {t : TypeId} {A : Option Addr} {gs : List (List UInt8 × Int)} (h : w.ownsRow lo t 2 (.slice A gs.length c) gs.length (flatG gs)) : GrC w A gs := fun k hk => by
  have hr := Reads.of_own h
  obtain ⟨ad, e, hlt, hc⟩ := hr.2 (by omega)
  obtain ⟨g0, g1⟩ := flatG_get gs k hk
  refine ⟨ad, e, hlt, hc _ _ g0, ?_⟩
  rw [← add_next]
  exact hc _ _ g1
theorem inc_own {w : World} {lo c : Nat} {t : TypeId} {A : Option Addr} {ks : List Int} (h : w.ownsRow lo t 1 (.slice A ks.length c) ks.length (ks.map (Value.int .i64))) : InC w A ks := fun k hk => by
  have hr := Reads.of_own h
  obtain ⟨ad, e, hlt, hc⟩ := hr.2 (by omega)
  refine ⟨ad, e, hlt, hc k _ ?_⟩
  rw [List.getElem?_map, List.getElem?_eq_getElem hk]
  rfl
theorem cfm_copy {w w' : World} {lo : Nat} {sw cm us : List UInt8} {vs us8 : List Value} {ls : List (List (List UInt8))} {A8 A9 A10 B8 B9 B10 : Option Addr} {c8 d8 d9 d10 : Nat} {al : List (List UInt8)} {gr : List (List UInt8 × Int)} {ky : List Int} (hC : CfM w sw cm us vs ls A8 c8 al A9 gr A10 ky) (hl : us8.length = 8)
    (hN : ∀ (i : Nat) v l, us8[i]? = some v → ls[i]? = some l → NewC lo w' v l) (h8 : NewC lo w' (.slice B8 al.length d8) al) (h9 : w'.ownsRow lo 36 2 (.slice B9 gr.length d9) gr.length (flatG gr)) (h10 : w'.ownsRow lo 3 1 (.slice B10 ky.length d10) ky.length (ky.map (Value.int .i64))) : CfM w' sw cm us us8 ls B8 d8 al B9 gr B10 ky := by
  refine ⟨hC.hsw, hC.hcm, hC.hus, ⟨hl, hC.hl8.2.1, fun i v l h1 h2 => ⟨(hN i v l h1 h2).txc, ?_⟩⟩, h8.txc.1, ?_, hC.all, hC.aly, grc_own h9, hC.grl, hC.gry, inc_own h10, hC.kyl⟩
  · have hi := (List.getElem?_eq_some_iff.1 h2).1
    rw [hC.hl8.2.1] at hi
    obtain ⟨u, hu⟩ : ∃ u, vs[i]? = some u := ⟨_, List.getElem?_eq_getElem (by rw [hC.hl8.1]; exact hi)⟩
    exact (hC.hl8.2.2 i u l hu h2).2
  · obtain ⟨A, c, e, hc, _⟩ := h8
    injection e with _ _ e3
    omega
/-- Cells that may be written. -/
def WrS (lo hb : Nat) (w : World) (A : Option Addr) (m : Nat) : Prop := 0 < m → ∃ g cur t, A = some ⟨g, 0, none⟩ ∧ lo ≤ g ∧ g ≠ hb ∧ w.heap[g]? = some (.cells cur t (0, 0)) ∧ m ≤ cur.size
theorem WrS.at {lo hb : Nat} {w : World} {A : Option Addr} {m : Nat} (h : WrS lo hb w A m) {k : Nat} (hk : k < m) : ∃ ad u, A = some ad ∧ lo ≤ ad.block ∧ hb ≠ ad.block ∧ w.cell? (ad.add k) = some u ∧ w.frozen? (ad.add k) = false := by
  obtain ⟨g, cur, t, e, h1, h2, h3, h4⟩ := h (by omega)
  have hb : Blk w g t cur := h3
  refine ⟨⟨g, 0, none⟩, cur[k]'(by omega), e, h1, fun e => h2 e.symm, ?_, ?_⟩
  · have := hb.cell k
    rw [Array.getElem?_eq_getElem (by omega)] at this
    cases k with
    | zero => exact this
    | succ k => rw [add_succ_]; simpa using this
  · have := hb.frozen k
    cases k with
    | zero => exact this
    | succ k => rw [add_succ_]; simpa using this
theorem WrS.set {lo hb : Nat} {w : World} {A : Option Addr} {m : Nat} (h : WrS lo hb w A m) (p : Addr) (u : Value) : WrS lo hb (w.setCell p u) A m := fun hm => by
  obtain ⟨g, cur, t, e, h1, h2, h3, h4⟩ := h hm
  have hB : Blk w g t cur := h3
  by_cases hp : g = p.block
  · obtain ⟨pb, po, ps⟩ := p
    simp only at hp
    subst hp
    cases ps with
    | none => exact ⟨g, _, t, e, h1, h2, hB.set_ po u, by simpa using h4⟩
    | some x => exact ⟨g, cur, t, e, h1, h2, by unfold Blk at hB; simp [World.setCell, Array.getElem?_modify, hB], h4⟩
  · exact ⟨g, cur, t, e, h1, h2, hB.far hp u, h4⟩
theorem WrS.alloc {lo hb : Nat} {w : World} {A : Option Addr} {m : Nat} (h : WrS lo hb w A m) (o : Obj) : WrS lo hb (w.alloc o) A m := fun hm => by
  obtain ⟨g, cur, t, e, h1, h2, h3, h4⟩ := h hm
  have hB : Blk w g t cur := h3
  exact ⟨g, cur, t, e, h1, h2, hB.alloc o, h4⟩
theorem WrS.of_own {lo : Nat} {w : World} {t : TypeId} {size n c : Nat} {A : Option Addr} {xs : List Value} (h : w.ownsRow lo t size (.slice A n c) n xs) : WrS lo w.heap.size w A (n * size) := fun hm => by
  obtain ⟨_, ⟨e, hn⟩ | ⟨g, cap, cur, e, hl, hg, hnc, _, hs, _⟩⟩ := h
  · subst hn; simp at hm
  · injection e with e1 e2 e3
    have hB : Blk w g t cur := hg
    have := hB.lt
    exact ⟨g, cur, t, e1, hl, by omega, hg, by rw [hs]; exact Nat.mul_le_mul_right _ hnc⟩
theorem WrS.setCells {lo hb b : Nat} {A : Option Addr} {m : Nat} : ∀ (vs : List Value) (o : Nat) {w : World}, WrS lo hb w A m → WrS lo hb (w.setCells b o vs) A m
  | [], _, _, h => h
  | v :: r, o, _, h => WrS.setCells r (o + 1) (h.set ⟨b, o, none⟩ v)
/-- What the loops that write keep: the older blocks, the copy's own cells, and that its lists may be written. -/
structure KeepE (w5 : World) (hb : Nat) (ce : Array Value) (E1 E8 E9 E10 : Option Addr) (n1 n8 n9 n10 : Nat) (W : World) : Prop where
  bel : Below w5.heap.size w5 W
  blk : Blk W hb 30 ce
  k1 : WrS w5.heap.size hb W E1 n1
  k8 : WrS w5.heap.size hb W E8 n8
  k9 : WrS w5.heap.size hb W E9 (n9 * 2)
  k10 : WrS w5.heap.size hb W E10 n10
theorem KeepE.set {w5 : World} {hb : Nat} {ce : Array Value} {E1 E8 E9 E10 : Option Addr} {n1 n8 n9 n10 : Nat} {W : World} (h : KeepE w5 hb ce E1 E8 E9 E10 n1 n8 n9 n10 W) {p : Addr} (h1 : w5.heap.size ≤ p.block) (h2 : hb ≠ p.block) (u : Value) : KeepE w5 hb ce E1 E8 E9 E10 n1 n8 n9 n10 (W.setCell p u) :=
  ⟨h.bel.setCell h1 u, h.blk.far h2 u, h.k1.set p u, h.k8.set p u, h.k9.set p u, h.k10.set p u⟩
theorem plainLs_ok : ∀ l ∈ plainLs, l.length ≤ 1000000 ∧ ∀ y ∈ l, y.length ≤ 1000000 := by
  intro l hl
  simp only [plainLs, List.mem_cons, List.mem_nil_iff, or_false] at hl
  rcases hl with rfl | rfl | rfl | rfl | rfl | rfl | rfl | rfl <;> exact ⟨by decide, by decide⟩
theorem blk_there_mid {w : World} {b o : Nat} {t : TypeId} {cs : Array Value} {n : Nat} (h : Blk w b t cs) (hn : o + n ≤ cs.size) : w.there b o n := fun j hj => by
  rw [h.cell (o + j), Array.getElem?_eq_getElem (by omega)]
  exact ⟨rfl, h.frozen (o + j)⟩
/-- What conf.Check says of a plain conf of a host. -/
def CkP (host : Int) (w : World) (o : Ending) (w' : World) : Prop := ∃ v, o = .returned v ∧ (princL host = true → v = .nilIface) ∧ (princL host = false → ∃ b, v = errV b) ∧ Below w.heap.size w w'
theorem ckP_of {host : Int} {w : World} {s : List UInt8} {o : Ending} {w' : World} (h : ErrR (inC (fstE [none, none, unl (princL host) s 5, none])) w o w') : CkP host w o w' := by
  obtain ⟨hb, h⟩ := h
  cases hp : princL host with
  | true =>
    rw [hp] at h
    exact ⟨_, h, fun _ => rfl, fun e => absurd (hp.symm.trans e) (by decide), hb⟩
  | false =>
    rw [hp] at h
    obtain ⟨b, h1, _⟩ := h
    exact ⟨_, h1, fun e => absurd (hp.symm.trans e) (by decide), fun _ => ⟨b, rfl⟩, hb⟩
theorem ckP_of2 {host : Int} {w : World} {s : List UInt8} {o : Ending} {w' : World} (h : ErrR (inC (fstE [none, none, unl (princL host) s 5, none, none, none, none])) w o w') : CkP host w o w' := by
  obtain ⟨hb, h⟩ := h
  cases hp : princL host with
  | true =>
    rw [hp] at h
    exact ⟨_, h, fun _ => rfl, fun e => absurd (hp.symm.trans e) (by decide), hb⟩
  | false =>
    rw [hp] at h
    obtain ⟨b, h1, _⟩ := h
    exact ⟨_, h1, fun e => absurd (hp.symm.trans e) (by decide), fun _ => ⟨b, rfl⟩, hb⟩
section
variable {w : World}
set_option maxRecDepth 100000 in
theorem ckq_s {host : Int} {P0 P1 P2 P3 P4 P5 P6 P7 P8 P9 : Option Addr} {s0 s1 s2 s3 s4 s5 s6 s7 t0 t1 t2 t3 t4 t5 t6 t7 t8 t9 : Nat} (hM : MethV w) (hW : WordV w) (hC : CfM w [112, 108, 97, 105, 110] [] [] [.slice P0 s0 t0, .slice P1 s1 t1, .slice P2 s2 t2, .slice P3 s3 t3, .slice P4 s4 t4, .slice P5 s5 t5, .slice P6 s6 t6, .slice P7 s7 t7] plainLs P8 t8 [[115, 115, 104, 45, 101, 100, 50, 53, 53, 49, 57]] P9 [([97, 110, 110], 8)] none []) : Calls Tryd.prog 11 #[.agg #[.bool true, .string ⟨#[112, 108, 97, 105, 110]⟩, .string ⟨#[]⟩, .slice P0 s0 t0, .slice P1 s1 t1, .slice P2 s2 t2, .slice P3 s3 t3, .slice P4 s4 t4, .slice P5 s5 t5, .slice P6 s6 t6, .slice P7 s7 t7, .slice P8 1 t8, .int .i64 host, .slice P9 1 t9, .int .i64 3, .int .i64 0, .string ⟨#[]⟩, .slice none 0 0, .bool false, .bool false, .int .u32 0, .int .u32 0, .int .u32 0]] w (CkP host w) := by
  have h := check_s (ex := false) (ge := false) (own := host) (lim := 3) (peer := 0) (q0 := 0) (q1 := 0) (q2 := 0) (c9 := t9) (c10 := 0) hM hW hC
  have k0 : unl (verL [112, 108, 97, 105, 110] [] != []) [118, 101, 114, 115, 105, 111, 110] 1 = none := by kernel_rfl
  have k1 : prR (prW plainLs) = none := by kernel_rfl
  have k2 : denyR (denyE [([97, 110, 110], 8)] [[115, 115, 104, 45, 101, 100, 50, 53, 53, 49, 57]] 3) = none := by kernel_rfl
  rw [k0, k1, k2] at h
  exact h.mono fun _ _ h => ckP_of h
set_option maxRecDepth 100000 in
theorem ckq_c {host : Int} {P0 P1 P2 P3 P4 P5 P6 P7 P8 P9 : Option Addr} {s0 s1 s2 s3 s4 s5 s6 s7 t0 t1 t2 t3 t4 t5 t6 t7 t8 t9 : Nat} (hM : MethV w) (hW : WordV w) (hC : CfM w [112, 108, 97, 105, 110] [] [97, 110, 110] [.slice P0 s0 t0, .slice P1 s1 t1, .slice P2 s2 t2, .slice P3 s3 t3, .slice P4 s4 t4, .slice P5 s5 t5, .slice P6 s6 t6, .slice P7 s7 t7] plainLs P8 t8 [[115, 115, 104, 45, 101, 100, 50, 53, 53, 49, 57]] none [] P9 [8]) : Calls Tryd.prog 11 #[.agg #[.bool false, .string ⟨#[112, 108, 97, 105, 110]⟩, .string ⟨#[]⟩, .slice P0 s0 t0, .slice P1 s1 t1, .slice P2 s2 t2, .slice P3 s3 t3, .slice P4 s4 t4, .slice P5 s5 t5, .slice P6 s6 t6, .slice P7 s7 t7, .slice P8 1 t8, .int .i64 0, .slice none 0 0, .int .i64 0, .int .i64 host, .string ⟨#[97, 110, 110]⟩, .slice P9 1 t9, .bool true, .bool false, .int .u32 2048, .int .u32 3072, .int .u32 8192]] w (CkP host w) := by
  have h := check_c (ex := true) (ge := false) (own := 0) (lim := 0) (peer := host) (q0 := 2048) (q1 := 3072) (q2 := 8192) (c9 := 0) (c10 := t9) hM hW hC
  have k0 : unl (verL [112, 108, 97, 105, 110] [] != []) [118, 101, 114, 115, 105, 111, 110] 1 = none := by kernel_rfl
  have k1 : prR (prW plainLs) = none := by kernel_rfl
  have k2 : unl (userL [97, 110, 110]) [117, 115, 101, 114] 3 = none := by kernel_rfl
  have k3 : keyE [8] = none := by kernel_rfl
  have k4 : denyR (denyE [] [[115, 115, 104, 45, 101, 100, 50, 53, 53, 49, 57]] 1) = none := by kernel_rfl
  have k5 : unl (groupL 2048 3072 8192) [119, 105, 115, 104] 5 = none := by kernel_rfl
  rw [k0, k1, k2, k3, k4, k5] at h
  exact h.mono fun _ _ h => ckP_of2 h
set_option maxHeartbeats 40000000 in
set_option maxRecDepth 100000 in
theorem confCopies_any {sv ex ge : Bool} {sw cm us : List UInt8} {A0 A1 A2 A3 A4 A5 A6 A7 A8 A9 A10 : Option Addr} {n0 n1 n2 n3 n4 n5 n6 n7 c0 c1 c2 c3 c4 c5 c6 c7 c8 c9 c10 : Nat} {al : List (List UInt8)} {own lim peer q0 q1 q2 : Int} {gr : List (List UInt8 × Int)} {ky : List Int} {ls : List (List (List UInt8))} {srv : Bool} {host : Int} (hM : MethV w) (hW : WordV w) (hC : CfW w sw cm us [.slice A0 n0 c0, .slice A1 n1 c1, .slice A2 n2 c2, .slice A3 n3 c3, .slice A4 n4 c4, .slice A5 n5 c5, .slice A6 n6 c6, .slice A7 n7 c7] ls A8 c8 al A9 gr A10 ky) :
    Calls Tryd.prog 3 #[.agg #[.bool sv, .string (bs sw), .string (bs cm), .slice A0 n0 c0, .slice A1 n1 c1, .slice A2 n2 c2, .slice A3 n3 c3, .slice A4 n4 c4, .slice A5 n5 c5, .slice A6 n6 c6, .slice A7 n7 c7, .slice A8 al.length c8, .int .i64 own, .slice A9 gr.length c9, .int .i64 lim, .int .i64 peer, .string (bs us), .slice A10 ky.length c10, .bool ex, .bool ge, .int .u32 q0, .int .u32 q1, .int .u32 q2], .bool srv, .int .i64 host] w (fun o w' => o = .returned (.bool true) ∧ Below w.heap.size w w') := by
  obtain ⟨W0, hW0⟩ : ∃ W0, W0 = w.alloc (.cells #[.bool sv, .string (bs sw), .string (bs cm), .slice A0 n0 c0, .slice A1 n1 c1, .slice A2 n2 c2, .slice A3 n3 c3, .slice A4 n4 c4, .slice A5 n5 c5, .slice A6 n6 c6, .slice A7 n7 c7, .slice A8 al.length c8, .int .i64 own, .slice A9 gr.length c9, .int .i64 lim, .int .i64 peer, .string (bs us), .slice A10 ky.length c10, .bool ex, .bool ge, .int .u32 q0, .int .u32 q1, .int .u32 q2] 30) := ⟨_, rfl⟩
  have hb0 : Below w.heap.size w W0 := by rw [hW0]; (repeat (first | exact Below.refl _ _ | refine below_drewN ?_ _ | refine Below.drew ?_ | refine Below.alloc ?_ (by first | omega | (simp; done) | (simp; omega)) _ | refine Below.setCell ?_ (by first | omega | (simp; done) | (simp; omega)) _ | refine bel_alloc ?_ _ | refine bel_trans ?_ (by assumption) | refine Below.trans ?_ (Below.mono (by assumption) (by first | omega | (simp; done) | (simp; omega)))))
  have hX0 : Blk W0 w.heap.size 30 #[.bool sv, .string (bs sw), .string (bs cm), .slice A0 n0 c0, .slice A1 n1 c1, .slice A2 n2 c2, .slice A3 n3 c3, .slice A4 n4 c4, .slice A5 n5 c5, .slice A6 n6 c6, .slice A7 n7 c7, .slice A8 al.length c8, .int .i64 own, .slice A9 gr.length c9, .int .i64 lim, .int .i64 peer, .string (bs us), .slice A10 ky.length c10, .bool ex, .bool ge, .int .u32 q0, .int .u32 q1, .int .u32 q2] := by rw [hW0]; exact Blk.new w _ _
  have HF := hide (few25_any (sv := sv) (ex := ex) (ge := ge) (own := own) (lim := lim) (peer := peer) (q0 := q0) (q1 := q1) (q2 := q2) (c9 := c9) (c10 := c10) (hC.below hb0))
  have HA := hide (fun (W : World) (hb : Below w.heap.size w W) => awake25_any (hM.below hb) (hW.below hb))
  have HT := hide (fun (W : World) (hb : Below w.heap.size w W) => And.intro (hM.below hb) (hW.below hb))
  have HCf := hide (fun (hf : fewC sw cm us ls al gr ky = true) (W : World) (hb : Below w.heap.size w W) => (hC.below hb).few hf)
  have HX := hide (And.intro hb0 hX0)
  clear hb0 hM hW hC
  obtain ⟨cv, hcv⟩ : ∃ c : Array Value, c = #[.bool sv, .string (bs sw), .string (bs cm), .slice A0 n0 c0, .slice A1 n1 c1, .slice A2 n2 c2, .slice A3 n3 c3, .slice A4 n4 c4, .slice A5 n5 c5, .slice A6 n6 c6, .slice A7 n7 c7, .slice A8 al.length c8, .int .i64 own, .slice A9 gr.length c9, .int .i64 lim, .int .i64 peer, .string (bs us), .slice A10 ky.length c10, .bool ex, .bool ge, .int .u32 q0, .int .u32 q1, .int .u32 q2] := ⟨_, rfl⟩
  rw [← hcv] at HF HX hX0 hW0 ⊢
  have hcl : cv.toList.length = 23 := by rw [hcv]; rfl
  have Hcv := hide hcv
  clear hcv
  have hlt0 := hX0.lt
  clear hX0
  cases hf : fewC sw cm us ls al gr ky with
  | false =>
    rw [hf] at HF
    clear HCf HT hf Hcv
    go_enter Tryd.func3, Tryd.ntmps3
    go_upto_region 1 with fail
    rw [← hW0]
    clear hW0
    refine wp_region_lit ?_
    refine wpList_load_confA rfl (.tmp 3) rfl (by rfl) HX.out.2 hcl ?_
    go_wp2_with (first
      | (go_at_call 5; refine HF.out.mono ?_; rintro o w1 ⟨rfl, hb1⟩; have hb01 := HX.out.1.trans (hb1.mono HX.out.1.size))
      | (go_at_call 6; refine (HA.out _ hb01).mono ?_; rintro o w2 ⟨rfl, hb2⟩)
      | fail)
    go_ret
    exact ⟨rfl, hb01.trans (hb2.mono hb01.size)⟩
  | true =>
    rw [hf] at HF
    have HCg := hide (HCf.out hf)
    clear hf HCf
    go_enter Tryd.func3, Tryd.ntmps3
    go_upto_region 1 with fail
    rw [← hW0]
    clear hW0
    refine wp_region_lit ?_
    refine wpList_load_confA rfl (.tmp 3) rfl (by rfl) HX.out.2 hcl ?_
    try simp only [Act.put, List.setIfInBounds_toArray, List.set_cons_zero, List.set_cons_succ]
    refine wpList_call_ rfl (by go_simp) (HF.out) ?_
    rintro o w1 ⟨rfl, hb1⟩
    refine ⟨_, rfl, ?_⟩
    try simp only [Act.put, List.setIfInBounds_toArray, List.set_cons_zero, List.set_cons_succ]
    refine wpList_val (v := .bool false) (w' := w1) rfl (by go_simp) ?_
    try simp only [Act.put, List.setIfInBounds_toArray, List.set_cons_zero, List.set_cons_succ]
    have hb01 := HX.out.1.trans (hb1.mono HX.out.1.size)
    have hX1 := HX.out.2.below hb1 hlt0
    go_upto_region 3 with fail
    refine wp_region_lit ?_
    refine wpList_load_confA rfl (.tmp 3) rfl (by rfl) hX1 hcl ?_
    try simp only [Act.put, List.setIfInBounds_toArray, List.set_cons_zero, List.set_cons_succ]
    rw [Hcv.out]
    refine wpList_call_ rfl (by go_simp) (copy_any (sv := sv) (ex := ex) (ge := ge) (own := own) (lim := lim) (peer := peer) (q0 := q0) (q1 := q1) (q2 := q2) (c9 := c9) (c10 := c10) (HCg.out _ hb01)) ?_
    rintro o w2 ⟨B0, m0, d0, B1, m1, d1, B2, m2, d2, B3, m3, d3, B4, m4, d4, B5, m5, d5, B6, m6, d6, B7, m7, d7, B8, d8, B9, d9, B10, d10, rfl, hN, h8, h9, h10, hb2⟩
    refine ⟨_, rfl, ?_⟩
    try simp only [Act.put, List.setIfInBounds_toArray, List.set_cons_zero, List.set_cons_succ]
    have hb02 := hb01.trans (hb2.mono hb01.size)
    have hX2 := hX1.below hb2 hX1.lt
    have hD2 := cfm_copy (HCg.out _ hb01) rfl hN h8 h9 h10
    obtain ⟨cd, hcd⟩ : ∃ c : Array Value, c = #[.bool sv, .string (bs sw), .string (bs cm), .slice B0 m0 d0, .slice B1 m1 d1, .slice B2 m2 d2, .slice B3 m3 d3, .slice B4 m4 d4, .slice B5 m5 d5, .slice B6 m6 d6, .slice B7 m7 d7, .slice B8 al.length d8, .int .i64 own, .slice B9 gr.length d9, .int .i64 lim, .int .i64 peer, .string (bs us), .slice B10 ky.length d10, .bool ex, .bool ge, .int .u32 q0, .int .u32 q1, .int .u32 q2] := ⟨_, rfl⟩
    rw [← hcd]
    have hdl : cd.toList.length = 23 := by rw [hcd]; rfl
    have hd1 : cd.all (·.oneCell') = true := by rw [hcd]; simp [Value.oneCell']
    have Hcd := hide hcd
    clear hcd hN h8 h9 h10
    refine wpList_val (v := .pointer (some ⟨w2.heap.size, 0, none⟩)) (w' := w2.alloc (.cells zeroC 30)) rfl (allocC _ rfl _ _) ?_
    try simp only [Act.put, List.setIfInBounds_toArray, List.set_cons_zero, List.set_cons_succ]
    refine wpList_store_conf rfl (.tmp 7) (.tmp 20) rfl (by rfl) (by rfl) (Blk.new w2 30 zeroC) rfl hdl hd1 ?_
    try simp only [Act.put, List.setIfInBounds_toArray, List.set_cons_zero, List.set_cons_succ]
    have hXd : Blk ((w2.alloc (.cells zeroC 30)).setCells w2.heap.size 0 cd.toList) w2.heap.size 30 cd := by
      have h9 := Blk.setCells cd.toList 0 (Blk.new w2 30 zeroC)
      rw [wrA_all (by rw [hdl]; rfl), Array.toArray_toList] at h9
      exact h9
    have hbx : Below w2.heap.size w2 ((w2.alloc (.cells zeroC 30)).setCells w2.heap.size 0 cd.toList) := below_setCells (Nat.le_refl _) cd.toList 0 (bel_newN _)
    obtain ⟨w3, hw3⟩ : ∃ W, W = (w2.alloc (.cells zeroC 30)).setCells w2.heap.size 0 cd.toList := ⟨_, rfl⟩
    rw [← hw3] at hXd hbx ⊢
    obtain ⟨b1, hdb1⟩ : ∃ b, b = w2.heap.size := ⟨_, rfl⟩
    have hleb1 : w2.heap.size ≤ b1 := by rw [hdb1]; exact Nat.le_refl _
    rw [← hdb1] at hXd ⊢
    have hb03 := hb02.trans (hbx.mono hb02.size)
    have hX3 := hX2.below hbx hX2.lt
    have hD3 := hD2.below hbx
    have hC3 := HCg.out _ hb03
    have HS1 := hide (fun (W : World) (hb : Below w3.heap.size w3 W) => show Calls Tryd.prog 8 #[.agg cv, .agg cd] W (fun o w' => o = .returned (.bool true) ∧ Below W.heap.size W w') from by rw [Hcv.out, Hcd.out]; exact same25_true (hC3.below hb) (hD3.below hb))
    have HP2 := hide (show ∀ W, Below w3.heap.size w3 W → Calls Tryd.prog 7 #[.agg cd] W _ from by rw [Hcd.out]; exact fun W hb => copy_anyW (sv := sv) (ex := ex) (ge := ge) (own := own) (lim := lim) (peer := peer) (q0 := q0) (q1 := q1) (q2 := q2) (c9 := d9) (c10 := d10) (hD3.below hb))
    obtain ⟨l1, hl1⟩ : ∃ l, ls[1]? = some l := ⟨_, List.getElem?_eq_getElem (by rw [hD3.hl8.2.1]; decide)⟩
    have hn8 := hC3.all
    have hn9 := hC3.grl
    have hn10 := hC3.kyl
    have hn1 := (hD3.hl8.2.2 1 _ l1 rfl hl1).2.1
    clear hX1 hX2 hb1 hb2 hD2 hC3 hD3 hb01 hb02 hbx HF
    go_upto_region 4 with fail
    refine wp_region_lit ?_
    refine wpList_load_confA rfl (.tmp 3) rfl (by rfl) hX3 hcl ?_
    try simp only [Act.put, List.setIfInBounds_toArray, List.set_cons_zero, List.set_cons_succ]
    refine wpList_load_confA rfl (.tmp 7) rfl (by rfl) hXd hdl ?_
    try simp only [Act.put, List.setIfInBounds_toArray, List.set_cons_zero, List.set_cons_succ]
    refine wpList_call_ rfl (by go_simp) (HS1.out _ (Below.refl _ _)) ?_
    rintro o w4 ⟨rfl, hb4⟩
    refine ⟨_, rfl, ?_⟩
    try simp only [Act.put, List.setIfInBounds_toArray, List.set_cons_zero, List.set_cons_succ]
    have hX4 := hX3.below hb4 hX3.lt
    have hXd4 := hXd.below hb4 hXd.lt
    have hb04 := hb03.trans (hb4.mono hb03.size)
    go_upto_region 6 with fail
    refine wp_region_lit ?_
    refine wpList_load_confA rfl (.tmp 7) rfl (by rfl) hXd4 hdl ?_
    try simp only [Act.put, List.setIfInBounds_toArray, List.set_cons_zero, List.set_cons_succ]
    refine wpList_call_ rfl (by go_simp) (HP2.out _ hb4) ?_
    rintro o w5 ⟨E0, k0, g0, E1, k1, g1, E2, k2, g2, E3, k3, g3, E4, k4, g4, E5, k5, g5, E6, k6, g6, E7, k7, g7, E8, g8, E9, g9, E10, g10, rfl, hN, h8, h9, h10, hb5⟩
    refine ⟨_, rfl, ?_⟩
    try simp only [Act.put, List.setIfInBounds_toArray, List.set_cons_zero, List.set_cons_succ]
    obtain ⟨ce, hce⟩ : ∃ c : Array Value, c = #[.bool sv, .string (bs sw), .string (bs cm), .slice E0 k0 g0, .slice E1 k1 g1, .slice E2 k2 g2, .slice E3 k3 g3, .slice E4 k4 g4, .slice E5 k5 g5, .slice E6 k6 g6, .slice E7 k7 g7, .slice E8 al.length g8, .int .i64 own, .slice E9 gr.length g9, .int .i64 lim, .int .i64 peer, .string (bs us), .slice E10 ky.length g10, .bool ex, .bool ge, .int .u32 q0, .int .u32 q1, .int .u32 q2] := ⟨_, rfl⟩
    rw [← hce]
    have hel : ce.toList.length = 23 := by rw [hce]; rfl
    have he1 : ce.all (·.oneCell') = true := by rw [hce]; simp [Value.oneCell']
    have e4 : ce[4]? = some (.slice E1 k1 g1) := by rw [hce]; rfl
    have e11 : ce[11]? = some (.slice E8 al.length g8) := by rw [hce]; rfl
    have e13 : ce[13]? = some (.slice E9 gr.length g9) := by rw [hce]; rfl
    have e17 : ce[17]? = some (.slice E10 ky.length g10) := by rw [hce]; rfl
    clear hce
    have hN1 := hN 1 _ l1 rfl hl1
    obtain rfl : k1 = l1.length := by
      obtain ⟨B, m, d, hm, e⟩ := newW_sl hN1
      injection e with _ e2 _
      omega
    have q1 := WrS.of_own hN1
    have q8 := WrS.of_own h8
    have q9 := WrS.of_own h9
    have q10 := WrS.of_own h10
    rw [Nat.mul_one] at q1 q8 q10
    clear hN hN1 h8 h9 h10 hl1 HP2
    refine wpList_val (v := .pointer (some ⟨w5.heap.size, 0, none⟩)) (w' := w5.alloc (.cells zeroC 30)) rfl (allocC _ rfl _ _) ?_
    try simp only [Act.put, List.setIfInBounds_toArray, List.set_cons_zero, List.set_cons_succ]
    refine wpList_store_conf rfl (.tmp 8) (.tmp 26) rfl (by rfl) (by rfl) (Blk.new w5 30 zeroC) rfl hel he1 ?_
    try simp only [Act.put, List.setIfInBounds_toArray, List.set_cons_zero, List.set_cons_succ]
    have hXe : Blk ((w5.alloc (.cells zeroC 30)).setCells w5.heap.size 0 ce.toList) w5.heap.size 30 ce := by
      have h9 := Blk.setCells ce.toList 0 (Blk.new w5 30 zeroC)
      rw [wrA_all (by rw [hel]; rfl), Array.toArray_toList] at h9
      exact h9
    have hby : Below w5.heap.size w5 ((w5.alloc (.cells zeroC 30)).setCells w5.heap.size 0 ce.toList) := below_setCells (Nat.le_refl _) ce.toList 0 (bel_newN _)
    have q1 := (q1.alloc (.cells zeroC 30)).setCells (b := w5.heap.size) ce.toList 0
    have q8 := (q8.alloc (.cells zeroC 30)).setCells (b := w5.heap.size) ce.toList 0
    have q9 := (q9.alloc (.cells zeroC 30)).setCells (b := w5.heap.size) ce.toList 0
    have q10 := (q10.alloc (.cells zeroC 30)).setCells (b := w5.heap.size) ce.toList 0
    obtain ⟨w6, hw6⟩ : ∃ W, W = (w5.alloc (.cells zeroC 30)).setCells w5.heap.size 0 ce.toList := ⟨_, rfl⟩
    rw [← hw6] at hXe hby q1 q8 q9 q10 ⊢
    obtain ⟨b2, hdb2⟩ : ∃ b, b = w5.heap.size := ⟨_, rfl⟩
    have hleb2 : w5.heap.size ≤ b2 := by rw [hdb2]; exact Nat.le_refl _
    rw [← hdb2] at hXe q1 q8 q9 q10 ⊢
    have HK := hide (show KeepE w4 b2 ce E1 E8 E9 E10 l1.length al.length gr.length ky.length w6 from ⟨hb5.trans (hby.mono hb5.size), hXe, q1, q8, q9, q10⟩)
    have H4 := hide (And.intro hb04 (And.intro hX4 hXd4))
    have Hb4 := hide hb4
    clear hw3 hw6 hdb1 hdb2 hleb1 hleb2 hXd hX3 hb03 hb04 hX4 hXd4 hb4 hb5 hby hXe q1 q8 q9 q10 he1 hel hd1
    go_wp2_with fail
    go_loopw [9] (fun i wr => ∃ k : Nat, k ≤ al.length ∧ i = .int .i64 k ∧ KeepE w4 b2 ce E1 E8 E9 E10 l1.length al.length gr.length ky.length wr) (fun i _ => al.length - (intOf i).toNat)
    case atStart => exact ⟨0, Nat.zero_le _, rfl, HK.out⟩
    case round =>
      obtain ⟨k, hk, rfl, hK⟩ := hrel
      clear HK
      have HK := hide hK
      have y := hK.blk.cell 11
      have z := hK.blk.frozen 11
      rw [e11] at y
      clear hK
      by_cases hlt : k < al.length
      · obtain ⟨ad, u, rfl, h1, h2, h3, h4⟩ := HK.out.k8.at (k := k) (by omega)
        go_wp2_with fail
        go_roundw
        case rel => exact ⟨k + 1, hlt, by go_num, HK.out.set (p := ad.add k) (by rw [block_of_add]; exact h1) (by rw [block_of_add]; exact h2) _⟩
        case measure => simp [intOf]; omega
      · go_wp2_with fail
        clear y z hlt hk
        go_loopw [10] (fun i wr => ∃ k : Nat, k ≤ gr.length ∧ i = .int .i64 k ∧ KeepE w4 b2 ce E1 E8 E9 E10 l1.length al.length gr.length ky.length wr) (fun i _ => gr.length - (intOf i).toNat)
        case atStart => exact ⟨0, Nat.zero_le _, rfl, HK.out⟩
        case round =>
          obtain ⟨k, hk, rfl, hK⟩ := hrel
          clear HK
          have HK := hide hK
          have y := hK.blk.cell 13
          have z := hK.blk.frozen 13
          rw [e13] at y
          clear hK
          by_cases hlt : k < gr.length
          · obtain ⟨ad, u, rfl, h1, h2, h3, h4⟩ := HK.out.k9.at (k := k * 2 + 1) (by omega)
            rw [add_next] at h3 h4
            go_wp2_with fail
            go_roundw
            case rel => exact ⟨k + 1, hlt, by go_num, HK.out.set (p := ⟨(ad.add (k * 2)).block, (ad.add (k * 2)).off + 1, none⟩) (by show _ ≤ (ad.add (k * 2)).block; rw [block_of_add]; exact h1) (by show _ ≠ (ad.add (k * 2)).block; rw [block_of_add]; exact h2) _⟩
            case measure => simp [intOf]; omega
          · go_wp2_with fail
            clear y z hlt hk
            go_loopw [11] (fun i wr => ∃ k : Nat, k ≤ ky.length ∧ i = .int .i64 k ∧ KeepE w4 b2 ce E1 E8 E9 E10 l1.length al.length gr.length ky.length wr) (fun i _ => ky.length - (intOf i).toNat)
            case atStart => exact ⟨0, Nat.zero_le _, rfl, HK.out⟩
            case round =>
              obtain ⟨k, hk, rfl, hK⟩ := hrel
              clear HK
              have HK := hide hK
              have y := hK.blk.cell 17
              have z := hK.blk.frozen 17
              rw [e17] at y
              clear hK
              by_cases hlt : k < ky.length
              · obtain ⟨ad, u, rfl, h1, h2, h3, h4⟩ := HK.out.k10.at (k := k) (by omega)
                go_wp2_with fail
                go_roundw
                case rel => exact ⟨k + 1, hlt, by go_num, HK.out.set (p := ad.add k) (by rw [block_of_add]; exact h1) (by rw [block_of_add]; exact h2) _⟩
                case measure => simp [intOf]; omega
              · go_wp2_with fail
                clear y z hlt hk
                go_loopw [12] (fun i wr => ∃ k : Nat, k ≤ l1.length ∧ i = .int .i64 k ∧ KeepE w4 b2 ce E1 E8 E9 E10 l1.length al.length gr.length ky.length wr) (fun i _ => l1.length - (intOf i).toNat)
                case atStart => exact ⟨0, Nat.zero_le _, rfl, HK.out⟩
                case round =>
                  obtain ⟨k, hk, rfl, hK⟩ := hrel
                  clear HK
                  have HK := hide hK
                  have y := hK.blk.cell 4
                  have z := hK.blk.frozen 4
                  rw [e4] at y
                  clear hK
                  by_cases hlt : k < l1.length
                  · obtain ⟨ad, u, rfl, h1, h2, h3, h4⟩ := HK.out.k1.at (k := k) (by omega)
                    go_wp2_with fail
                    go_roundw
                    case rel => exact ⟨k + 1, hlt, by go_num, HK.out.set (p := ad.add k) (by rw [block_of_add]; exact h1) (by rw [block_of_add]; exact h2) _⟩
                    case measure => simp [intOf]; omega
                  · go_upto_region 23 with fail
                    clear y z hlt hk
                    have hbr : Below w.heap.size w wr := H4.out.1.trans (HK.out.bel.mono H4.out.1.size)
                    cases srv with
                    | true =>
                      refine wp_region_lit ?_
                      refine wpList_val (v := .bool true) (w' := wr) rfl (by go_simp) ?_
                      try simp only [Act.put, List.setIfInBounds_toArray, List.set_cons_zero, List.set_cons_succ]
                      refine wpList_val (v := .int .i64 host) (w' := wr) rfl (by go_simp) ?_
                      try simp only [Act.put, List.setIfInBounds_toArray, List.set_cons_zero, List.set_cons_succ]
                      refine wpList_call_ rfl (by go_simp) (cplain_s (HT.out _ hbr).1 host) ?_
                      rintro o w7 ⟨P0, s0, t0, P1, s1, t1, P2, s2, t2, P3, s3, t3, P4, s4, t4, P5, s5, t5, P6, s6, t6, P7, s7, t7, P8, t8, P9, t9, rfl, hP, hb7⟩
                      refine ⟨_, rfl, ?_⟩
                      try simp only [Act.put, List.setIfInBounds_toArray, List.set_cons_zero, List.set_cons_succ]
                      obtain ⟨cp, hcp⟩ : ∃ c : Array Value, c = #[.bool true, .string ⟨#[112, 108, 97, 105, 110]⟩, .string ⟨#[]⟩, .slice P0 s0 t0, .slice P1 s1 t1, .slice P2 s2 t2, .slice P3 s3 t3, .slice P4 s4 t4, .slice P5 s5 t5, .slice P6 s6 t6, .slice P7 s7 t7, .slice P8 1 t8, .int .i64 host, .slice P9 1 t9, .int .i64 3, .int .i64 0, .string ⟨#[]⟩, .slice none 0 0, .bool false, .bool false, .int .u32 0, .int .u32 0, .int .u32 0] := ⟨_, rfl⟩
                      rw [← hcp]
                      have hpl : cp.toList.length = 23 := by rw [hcp]; rfl
                      have hp1 : cp.all (·.oneCell') = true := by rw [hcp]; simp [Value.oneCell']
                      have Hcp := hide hcp
                      clear hcp
                      refine wpList_val (v := .pointer (some ⟨w7.heap.size, 0, none⟩)) (w' := w7.alloc (.cells zeroC 30)) rfl (allocC _ rfl _ _) ?_
                      try simp only [Act.put, List.setIfInBounds_toArray, List.set_cons_zero, List.set_cons_succ]
                      refine wpList_store_conf rfl (.tmp 13) (.tmp 76) rfl (by rfl) (by rfl) (Blk.new w7 30 zeroC) rfl hpl hp1 ?_
                      try simp only [Act.put, List.setIfInBounds_toArray, List.set_cons_zero, List.set_cons_succ]
                      have hXp : Blk ((w7.alloc (.cells zeroC 30)).setCells w7.heap.size 0 cp.toList) w7.heap.size 30 cp := by
                        have h9 := Blk.setCells cp.toList 0 (Blk.new w7 30 zeroC)
                        rw [wrA_all (by rw [hpl]; rfl), Array.toArray_toList] at h9
                        exact h9
                      have hbp : Below w7.heap.size w7 ((w7.alloc (.cells zeroC 30)).setCells w7.heap.size 0 cp.toList) := below_setCells (Nat.le_refl _) cp.toList 0 (bel_newN _)
                      obtain ⟨w8, hw8⟩ : ∃ W, W = (w7.alloc (.cells zeroC 30)).setCells w7.heap.size 0 cp.toList := ⟨_, rfl⟩
                      rw [← hw8] at hXp hbp ⊢
                      obtain ⟨b3, hdb3⟩ : ∃ b, b = w7.heap.size := ⟨_, rfl⟩
                      have hleb3 : w7.heap.size ≤ b3 := by rw [hdb3]; exact Nat.le_refl _
                      rw [← hdb3] at hXp ⊢
                      have hP8 := hP.below hbp
                      have hbr8 := hbr.trans ((hb7.trans (hbp.mono hb7.size)).mono hbr.size)
                      clear hw8 hdb3 hP hp1
                      go_upto_region 24 with fail
                      refine wp_region_lit ?_
                      refine wpList_val (v := .bool true) (w' := w8) rfl (by go_simp) ?_
                      try simp only [Act.put, List.setIfInBounds_toArray, List.set_cons_zero, List.set_cons_succ]
                      refine wpList_call_ rfl (by go_simp) (pplain_any (HT.out _ hbr8).1) ?_
                      rintro o w9 ⟨Q0, x0, z0, Q1, x1, z1, Q2, x2, z2, Q3, x3, z3, Q4, x4, z4, Q5, x5, z5, Q6, x6, z6, Q7, x7, z7, rfl, hQN, hb9⟩
                      refine ⟨_, rfl, ?_⟩
                      try simp only [Act.put, List.setIfInBounds_toArray, List.set_cons_zero, List.set_cons_succ]
                      have hP9 := hP8.below hb9
                      have hXp9 := hXp.below hb9 hXp.lt
                      have hbr9 := hbr8.trans (hb9.mono hbr8.size)
                      have h89 := hb7.trans ((hbp.trans (hb9.mono hbp.size)).mono hb7.size)
                      clear hP8 hXp hbp hbr8 hb7 hb9
                      obtain ⟨w10, hw10⟩ : ∃ W, W = w9.alloc (.cells #[.string ⟨#[115, 115, 104, 45, 101, 100, 50, 53, 53, 49, 57]⟩] 9) := ⟨_, rfl⟩
                      refine wpList_val (v := .slice (some ⟨w9.heap.size, 0, none⟩) 1 1) (w' := w10) rfl (by rw [hw10]; go_simp) ?_
                      try simp only [Act.put, List.setIfInBounds_toArray, List.set_cons_zero, List.set_cons_succ]
                      have hS1 : Blk w10 w9.heap.size 9 #[.string ⟨#[115, 115, 104, 45, 101, 100, 50, 53, 53, 49, 57]⟩] := by rw [hw10]; exact Blk.new w9 _ _
                      have hbB : Below w9.heap.size w9 w10 := by rw [hw10]; exact bel_newN _
                      clear hw10
                      refine wpList_val (v := .agg #[.bool true, .string ⟨#[112, 108, 97, 105, 110]⟩, .string ⟨#[]⟩, .slice Q0 x0 z0, .slice Q1 x1 z1, .slice Q2 x2 z2, .slice Q3 x3 z3, .slice Q4 x4 z4, .slice Q5 x5 z5, .slice Q6 x6 z6, .slice Q7 x7 z7, .slice (some ⟨w9.heap.size, 0, none⟩) 1 1, .int .i64 0, .slice none 0 0, .int .i64 0, .int .i64 0, .string ⟨#[]⟩, .slice none 0 0, .bool false, .bool false, .int .u32 0, .int .u32 0, .int .u32 0]) (w' := w10) rfl (by go_simp) ?_
                      try simp only [Act.put, List.setIfInBounds_toArray, List.set_cons_zero, List.set_cons_succ]
                      obtain ⟨cq, hcq⟩ : ∃ c : Array Value, c = #[.bool true, .string ⟨#[112, 108, 97, 105, 110]⟩, .string ⟨#[]⟩, .slice Q0 x0 z0, .slice Q1 x1 z1, .slice Q2 x2 z2, .slice Q3 x3 z3, .slice Q4 x4 z4, .slice Q5 x5 z5, .slice Q6 x6 z6, .slice Q7 x7 z7, .slice (some ⟨w9.heap.size, 0, none⟩) 1 1, .int .i64 0, .slice none 0 0, .int .i64 0, .int .i64 0, .string ⟨#[]⟩, .slice none 0 0, .bool false, .bool false, .int .u32 0, .int .u32 0, .int .u32 0] := ⟨_, rfl⟩
                      rw [← hcq]
                      have hql : cq.toList.length = 23 := by rw [hcq]; rfl
                      have hq1 : cq.all (·.oneCell') = true := by rw [hcq]; simp [Value.oneCell']
                      refine wpList_val (v := .pointer (some ⟨w10.heap.size, 0, none⟩)) (w' := w10.alloc (.cells zeroC 30)) rfl (allocC _ rfl _ _) ?_
                      try simp only [Act.put, List.setIfInBounds_toArray, List.set_cons_zero, List.set_cons_succ]
                      refine wpList_store_conf rfl (.tmp 14) (.tmp 80) rfl (by rfl) (by rfl) (Blk.new w10 30 zeroC) rfl hql hq1 ?_
                      try simp only [Act.put, List.setIfInBounds_toArray, List.set_cons_zero, List.set_cons_succ]
                      have hXq : Blk ((w10.alloc (.cells zeroC 30)).setCells w10.heap.size 0 cq.toList) w10.heap.size 30 cq := by
                        have h9 := Blk.setCells cq.toList 0 (Blk.new w10 30 zeroC)
                        rw [wrA_all (by rw [hql]; rfl), Array.toArray_toList] at h9
                        exact h9
                      have hbq : Below w10.heap.size w10 ((w10.alloc (.cells zeroC 30)).setCells w10.heap.size 0 cq.toList) := below_setCells (Nat.le_refl _) cq.toList 0 (bel_newN _)
                      obtain ⟨w11, hw11⟩ : ∃ W, W = (w10.alloc (.cells zeroC 30)).setCells w10.heap.size 0 cq.toList := ⟨_, rfl⟩
                      rw [← hw11] at hXq hbq ⊢
                      obtain ⟨b4, hdb4⟩ : ∃ b, b = w10.heap.size := ⟨_, rfl⟩
                      have hleb4 : w10.heap.size ≤ b4 := by rw [hdb4]; exact Nat.le_refl _
                      rw [← hdb4] at hXq ⊢
                      rw [hcq] at hXq
                      have hlt1 := hS1.lt
                      have hS1 := hS1.below hbq hS1.lt
                      have hbB := hbB.trans (hbq.mono hbB.size)
                      have hne1 : w9.heap.size ≠ b4 := by omega
                      have hge : w9.heap.size ≤ b4 := by omega
                      clear hw11 hdb4 hleb4 hlt1 hbq hcq hq1 hql
                      go_upto_region 25 with fail
                      go_upto_region 26 with fail
                      refine wp_region_lit ?_
                      refine wpList_val (v := .int .i64 host) (w' := w11) rfl (by go_simp) ?_
                      try simp only [Act.put, List.setIfInBounds_toArray, List.set_cons_zero, List.set_cons_succ]
                      refine wpList_val (v := .agg #[.string ⟨#[97, 110, 110]⟩, .int .i64 8]) (w' := w11) rfl (by go_simp) ?_
                      try simp only [Act.put, List.setIfInBounds_toArray, List.set_cons_zero, List.set_cons_succ]
                      obtain ⟨w12, hw⟩ : ∃ W, W = w11.alloc (.cells #[.string ⟨#[97, 110, 110]⟩, .int .i64 8] 36) := ⟨_, rfl⟩
                      obtain ⟨b5, hb5⟩ : ∃ b, b = w11.heap.size := ⟨_, rfl⟩
                      refine wpList_val (v := .slice (some ⟨b5, 0, none⟩) 1 1) (w' := w12) rfl (by rw [hw, hb5]; go_simp) ?_
                      try simp only [Act.put, List.setIfInBounds_toArray, List.set_cons_zero, List.set_cons_succ]
                      have hS2 : Blk w12 b5 36 #[.string ⟨#[97, 110, 110]⟩, .int .i64 8] := by rw [hw, hb5]; exact Blk.new w11 _ _
                      have hbz : Below w11.heap.size w11 w12 := by rw [hw]; exact bel_newN _
                      have hne2 : b5 ≠ b4 := by have := hXq.lt; omega
                      have hXq := hXq.below hbz hXq.lt
                      have hS1 := hS1.below hbz hS1.lt
                      have hbB := hbB.trans (hbz.mono hbB.size)
                      clear hw hb5 hbz
                      have y := hXq.cell 12
                      have z := hXq.frozen 12
                      simp only [List.getElem?_toArray, List.getElem?_cons_zero, List.getElem?_cons_succ] at y
                      refine wpList_val (v := .pointer (some ⟨b4, 12, none⟩)) (w' := w12) rfl (by go_simp) ?_
                      try simp only [Act.put, List.setIfInBounds_toArray, List.set_cons_zero, List.set_cons_succ]
                      refine wpList_skip (w' := w12.setCell ⟨b4, 12, none⟩ (.int .i64 host)) rfl (by go_simp) ?_
                      try simp only [Act.put, List.setIfInBounds_toArray, List.set_cons_zero, List.set_cons_succ]
                      clear y z
                      have hXq2 : Blk (w12.setCell ⟨b4, 12, none⟩ (.int .i64 host)) b4 30 #[.bool true, .string ⟨#[112, 108, 97, 105, 110]⟩, .string ⟨#[]⟩, .slice Q0 x0 z0, .slice Q1 x1 z1, .slice Q2 x2 z2, .slice Q3 x3 z3, .slice Q4 x4 z4, .slice Q5 x5 z5, .slice Q6 x6 z6, .slice Q7 x7 z7, .slice (some ⟨w9.heap.size, 0, none⟩) 1 1, .int .i64 host, .slice none 0 0, .int .i64 0, .int .i64 0, .string ⟨#[]⟩, .slice none 0 0, .bool false, .bool false, .int .u32 0, .int .u32 0, .int .u32 0] := by
                        have h9 := hXq.set_ 12 (.int .i64 host)
                        simpa using h9
                      have hS12 := hS1.far (p := ⟨b4, 12, none⟩) hne1 (.int .i64 host)
                      have hS22 := hS2.far (p := ⟨b4, 12, none⟩) hne2 (.int .i64 host)
                      have hbB2 := hbB.setCell (p := ⟨b4, 12, none⟩) hge (.int .i64 host)
                      generalize w12.setCell ⟨b4, 12, none⟩ (.int .i64 host) = w13 at hXq2 hS12 hS22 hbB2 ⊢
                      clear hXq hS1 hS2 hbB
                      have hXq := hXq2
                      have hS1 := hS12
                      have hS2 := hS22
                      have hbB := hbB2
                      clear hXq2 hS12 hS22 hbB2
                      have y := hXq.cell 13
                      have z := hXq.frozen 13
                      simp only [List.getElem?_toArray, List.getElem?_cons_zero, List.getElem?_cons_succ] at y
                      refine wpList_val (v := .pointer (some ⟨b4, 13, none⟩)) (w' := w13) rfl (by go_simp) ?_
                      try simp only [Act.put, List.setIfInBounds_toArray, List.set_cons_zero, List.set_cons_succ]
                      refine wpList_skip (w' := w13.setCell ⟨b4, 13, none⟩ (.slice (some ⟨b5, 0, none⟩) 1 1)) rfl (by go_simp) ?_
                      try simp only [Act.put, List.setIfInBounds_toArray, List.set_cons_zero, List.set_cons_succ]
                      clear y z
                      have hXq2 : Blk (w13.setCell ⟨b4, 13, none⟩ (.slice (some ⟨b5, 0, none⟩) 1 1)) b4 30 #[.bool true, .string ⟨#[112, 108, 97, 105, 110]⟩, .string ⟨#[]⟩, .slice Q0 x0 z0, .slice Q1 x1 z1, .slice Q2 x2 z2, .slice Q3 x3 z3, .slice Q4 x4 z4, .slice Q5 x5 z5, .slice Q6 x6 z6, .slice Q7 x7 z7, .slice (some ⟨w9.heap.size, 0, none⟩) 1 1, .int .i64 host, .slice (some ⟨b5, 0, none⟩) 1 1, .int .i64 0, .int .i64 0, .string ⟨#[]⟩, .slice none 0 0, .bool false, .bool false, .int .u32 0, .int .u32 0, .int .u32 0] := by
                        have h9 := hXq.set_ 13 (.slice (some ⟨b5, 0, none⟩) 1 1)
                        simpa using h9
                      have hS12 := hS1.far (p := ⟨b4, 13, none⟩) hne1 (.slice (some ⟨b5, 0, none⟩) 1 1)
                      have hS22 := hS2.far (p := ⟨b4, 13, none⟩) hne2 (.slice (some ⟨b5, 0, none⟩) 1 1)
                      have hbB2 := hbB.setCell (p := ⟨b4, 13, none⟩) hge (.slice (some ⟨b5, 0, none⟩) 1 1)
                      generalize w13.setCell ⟨b4, 13, none⟩ (.slice (some ⟨b5, 0, none⟩) 1 1) = w14 at hXq2 hS12 hS22 hbB2 ⊢
                      clear hXq hS1 hS2 hbB
                      have hXq := hXq2
                      have hS1 := hS12
                      have hS2 := hS22
                      have hbB := hbB2
                      clear hXq2 hS12 hS22 hbB2
                      have y := hXq.cell 14
                      have z := hXq.frozen 14
                      simp only [List.getElem?_toArray, List.getElem?_cons_zero, List.getElem?_cons_succ] at y
                      refine wpList_val (v := .pointer (some ⟨b4, 14, none⟩)) (w' := w14) rfl (by go_simp) ?_
                      try simp only [Act.put, List.setIfInBounds_toArray, List.set_cons_zero, List.set_cons_succ]
                      refine wpList_skip (w' := w14.setCell ⟨b4, 14, none⟩ (.int .i64 3)) rfl (by go_simp) ?_
                      try simp only [Act.put, List.setIfInBounds_toArray, List.set_cons_zero, List.set_cons_succ]
                      clear y z
                      have hXq2 : Blk (w14.setCell ⟨b4, 14, none⟩ (.int .i64 3)) b4 30 #[.bool true, .string ⟨#[112, 108, 97, 105, 110]⟩, .string ⟨#[]⟩, .slice Q0 x0 z0, .slice Q1 x1 z1, .slice Q2 x2 z2, .slice Q3 x3 z3, .slice Q4 x4 z4, .slice Q5 x5 z5, .slice Q6 x6 z6, .slice Q7 x7 z7, .slice (some ⟨w9.heap.size, 0, none⟩) 1 1, .int .i64 host, .slice (some ⟨b5, 0, none⟩) 1 1, .int .i64 3, .int .i64 0, .string ⟨#[]⟩, .slice none 0 0, .bool false, .bool false, .int .u32 0, .int .u32 0, .int .u32 0] := by
                        have h9 := hXq.set_ 14 (.int .i64 3)
                        simpa using h9
                      have hS12 := hS1.far (p := ⟨b4, 14, none⟩) hne1 (.int .i64 3)
                      have hS22 := hS2.far (p := ⟨b4, 14, none⟩) hne2 (.int .i64 3)
                      have hbB2 := hbB.setCell (p := ⟨b4, 14, none⟩) hge (.int .i64 3)
                      generalize w14.setCell ⟨b4, 14, none⟩ (.int .i64 3) = w15 at hXq2 hS12 hS22 hbB2 ⊢
                      clear hXq hS1 hS2 hbB
                      have hXq := hXq2
                      have hS1 := hS12
                      have hS2 := hS22
                      have hbB := hbB2
                      clear hXq2 hS12 hS22 hbB2
                      have hQf : CfM w15 [112, 108, 97, 105, 110] [] [] [.slice Q0 x0 z0, .slice Q1 x1 z1, .slice Q2 x2 z2, .slice Q3 x3 z3, .slice Q4 x4 z4, .slice Q5 x5 z5, .slice Q6 x6 z6, .slice Q7 x7 z7] plainLs (some ⟨w9.heap.size, 0, none⟩) 1 [[115, 115, 104, 45, 101, 100, 50, 53, 53, 49, 57]] (some ⟨b5, 0, none⟩) [([97, 110, 110], 8)] none [] := by
                        refine ⟨by decide, by decide, by decide, ⟨rfl, rfl, fun i v l h1 h2 => ⟨((hQN i v l h1 h2).belowW hbB).txc, plainLs_ok l (List.mem_of_getElem? h2)⟩⟩, (newC_of (lo := 0) (Blk.strs (ss := [⟨#[115, 115, 104, 45, 101, 100, 50, 53, 53, 49, 57]⟩]) hS1 (Nat.zero_le _) 1) (by decide)).txc.1, by decide, by decide, by decide, grc_blk hS2, by decide, by decide, fun k hk => by simp at hk, by decide⟩
                      have hbrw15 := hbr9.trans (hbB.mono hbr9.size)
                      have hPF := hP9.below hbB
                      have hXpF := hXp9.below hbB hXp9.lt
                      have hbF4 := HK.out.bel.trans ((h89.trans (hbB.mono h89.size)).mono HK.out.bel.size)
                      have hXcF := H4.out.2.1.below hbF4 H4.out.2.1.lt
                      have hXdF := H4.out.2.2.below hbF4 H4.out.2.2.lt
                      have HS2 := hide (fun (W : World) (hb : Below w15.heap.size w15 W) => show Calls Tryd.prog 8 #[.agg cp, .agg #[.bool true, .string ⟨#[112, 108, 97, 105, 110]⟩, .string ⟨#[]⟩, .slice Q0 x0 z0, .slice Q1 x1 z1, .slice Q2 x2 z2, .slice Q3 x3 z3, .slice Q4 x4 z4, .slice Q5 x5 z5, .slice Q6 x6 z6, .slice Q7 x7 z7, .slice (some ⟨w9.heap.size, 0, none⟩) 1 1, .int .i64 host, .slice (some ⟨b5, 0, none⟩) 1 1, .int .i64 3, .int .i64 0, .string ⟨#[]⟩, .slice none 0 0, .bool false, .bool false, .int .u32 0, .int .u32 0, .int .u32 0]] W (fun o w' => o = .returned (.bool true) ∧ Below W.heap.size W w') from by
                        have key := same25_true (sv := true) (ex := false) (ge := false) (own := host) (lim := 3) (peer := 0) (q0 := 0) (q1 := 0) (q2 := 0) (c9 := t9) (c10 := 0) (e9 := 1) (e10 := 0) (hPF.below hb) (hQf.below hb)
                        rw [Hcp.out]
                        exact key)
                      have HCk := hide (fun (W : World) (hb : Below w15.heap.size w15 W) => show Calls Tryd.prog 11 #[.agg cp] W (CkP host W) from by rw [Hcp.out]; exact ckq_s (HT.out _ (hbrw15.trans (hb.mono hbrw15.size))).1 (HT.out _ (hbrw15.trans (hb.mono hbrw15.size))).2 (hPF.below hb))
                      have h3F := Hb4.out.trans (hbF4.mono Hb4.out.size)
                      generalize hcq : (#[.bool true, .string ⟨#[112, 108, 97, 105, 110]⟩, .string ⟨#[]⟩, .slice Q0 x0 z0, .slice Q1 x1 z1, .slice Q2 x2 z2, .slice Q3 x3 z3, .slice Q4 x4 z4, .slice Q5 x5 z5, .slice Q6 x6 z6, .slice Q7 x7 z7, .slice (some ⟨w9.heap.size, 0, none⟩) 1 1, .int .i64 host, .slice (some ⟨b5, 0, none⟩) 1 1, .int .i64 3, .int .i64 0, .string ⟨#[]⟩, .slice none 0 0, .bool false, .bool false, .int .u32 0, .int .u32 0, .int .u32 0] : Array Value) = cq at HS2 hXq
                      have hql : cq.toList.length = 23 := by rw [← hcq]; rfl
                      clear hcq hQf hPF hP9 hXp9 hQN hS1 hS2 hne1 hne2 hge hbF4 hbr9 h89 hbB
                      go_upto_region 28 with fail
                      refine wp_region_lit ?_
                      refine wpList_call_ rfl (by go_simp) (HA.out _ hbrw15) ?_
                      rintro o w30 ⟨rfl, hb30⟩
                      refine ⟨_, rfl, ?_⟩
                      try simp only [Act.put, List.setIfInBounds_toArray, List.set_cons_zero, List.set_cons_succ]
                      have hXc1 := hXcF.below hb30 hXcF.lt
                      have hXd1 := hXdF.below hb30 hXdF.lt
                      have hXp1 := hXpF.below hb30 hXpF.lt
                      have hXq1 := hXq.below hb30 hXq.lt
                      refine wpList_val (v := .bool true) (w' := w30) rfl (by go_simp) ?_
                      try simp only [Act.put, List.setIfInBounds_toArray, List.set_cons_zero, List.set_cons_succ]
                      refine wpList_load_confG (by rfl) (.tmp 3) rfl (by rfl) hXc1 hcl ?_
                      try simp only [Act.put, List.setIfInBounds_toArray, List.set_cons_zero, List.set_cons_succ]
                      refine wpList_load_confG (by rfl) (.tmp 7) rfl (by rfl) hXd1 hdl ?_
                      try simp only [Act.put, List.setIfInBounds_toArray, List.set_cons_zero, List.set_cons_succ]
                      refine wpList_callG (by rfl) (by go_simp) (HS1.out _ (h3F.trans (hb30.mono h3F.size))) ?_
                      rintro o w31 ⟨rfl, hb31⟩
                      refine ⟨_, rfl, ?_⟩
                      try simp only [Act.put, List.setIfInBounds_toArray, List.set_cons_zero, List.set_cons_succ]
                      have hXp2 := hXp1.below hb31 hXp1.lt
                      have hXq2 := hXq1.below hb31 hXq1.lt
                      have hb3031 := hb30.trans (hb31.mono hb30.size)
                      refine wpList_val (v := .bool true) (w' := w31) rfl (by go_simp) ?_
                      try simp only [Act.put, List.setIfInBounds_toArray, List.set_cons_zero, List.set_cons_succ]
                      refine wpList_val (v := .bool true) (w' := w31) rfl (by go_simp) ?_
                      try simp only [Act.put, List.setIfInBounds_toArray, List.set_cons_zero, List.set_cons_succ]
                      refine wpList_load_confG (by rfl) (.tmp 13) rfl (by rfl) hXp2 hpl ?_
                      try simp only [Act.put, List.setIfInBounds_toArray, List.set_cons_zero, List.set_cons_succ]
                      refine wpList_load_confG (by rfl) (.tmp 14) rfl (by rfl) hXq2 hql ?_
                      try simp only [Act.put, List.setIfInBounds_toArray, List.set_cons_zero, List.set_cons_succ]
                      refine wpList_callG (by rfl) (by go_simp) (HS2.out _ hb3031) ?_
                      rintro o w32 ⟨rfl, hb32⟩
                      refine ⟨_, rfl, ?_⟩
                      try simp only [Act.put, List.setIfInBounds_toArray, List.set_cons_zero, List.set_cons_succ]
                      have hXp3 := hXp2.below hb32 hXp2.lt
                      have hb3032 := hb3031.trans (hb32.mono hb3031.size)
                      refine wpList_val (v := .bool true) (w' := w32) rfl (by go_simp) ?_
                      try simp only [Act.put, List.setIfInBounds_toArray, List.set_cons_zero, List.set_cons_succ]
                      refine wpList_val (v := .bool true) (w' := w32) rfl (by go_simp) ?_
                      try simp only [Act.put, List.setIfInBounds_toArray, List.set_cons_zero, List.set_cons_succ]
                      refine wpList_load_confG (by rfl) (.tmp 13) rfl (by rfl) hXp3 hpl ?_
                      try simp only [Act.put, List.setIfInBounds_toArray, List.set_cons_zero, List.set_cons_succ]
                      refine wpList_callG (by rfl) (by go_simp) (HCk.out _ hb3032) ?_
                      rintro o w33 ⟨v, rfl, hv1, hv2, hb33⟩
                      refine ⟨_, rfl, ?_⟩
                      try simp only [Act.put, List.setIfInBounds_toArray, List.set_cons_zero, List.set_cons_succ]
                      have hbZ := hbrw15.trans ((hb3032.trans (hb33.mono hb3032.size)).mono hbrw15.size)
                      clear hXc1 hXd1 hXp1 hXq1 hXp2 hXq2 hXp3 hXcF hXdF hXpF hXq HS1 HS2 HCk HA HT H4 Hb4 HK h3F
                      cases hp : princL host with
                      | true =>
                        obtain rfl := hv1 hp
                        have hh : 0 ≤ host ∧ host ≤ 15 := by unfold princL at hp; simpa using hp
                        clear hv1 hv2 hp
                        refine wpList_valG (v := .bool true) (w' := w33) (by rfl) (by go_simp) ?_
                        try simp only [Act.put, List.setIfInBounds_toArray, List.set_cons_zero, List.set_cons_succ]
                        refine wpList_valG (v := .int .i64 host) (w' := w33) (by rfl) (by go_simp) ?_
                        try simp only [Act.put, List.setIfInBounds_toArray, List.set_cons_zero, List.set_cons_succ]
                        refine wpList_valG (v := .bool true) (w' := w33) (by rfl) (by have q : decide ((0 : Int) ≤ host) = true := (by simp; omega); go_simp) ?_
                        try simp only [Act.put, List.setIfInBounds_toArray, List.set_cons_zero, List.set_cons_succ]
                        refine wpList_valG (v := .bool true) (w' := w33) (by rfl) (by go_simp) ?_
                        try simp only [Act.put, List.setIfInBounds_toArray, List.set_cons_zero, List.set_cons_succ]
                        refine wpList_valG (v := .int .i64 host) (w' := w33) (by rfl) (by go_simp) ?_
                        try simp only [Act.put, List.setIfInBounds_toArray, List.set_cons_zero, List.set_cons_succ]
                        refine wpList_valG (v := .bool true) (w' := w33) (by rfl) (by have q : decide (host ≤ (15 : Int)) = true := (by simp; omega); go_simp) ?_
                        try simp only [Act.put, List.setIfInBounds_toArray, List.set_cons_zero, List.set_cons_succ]
                        refine wpList_valG (v := .bool true) (w' := w33) (by rfl) (by go_simp) ?_
                        try simp only [Act.put, List.setIfInBounds_toArray, List.set_cons_zero, List.set_cons_succ]
                        refine wpList_valG (v := .bool true) (w' := w33) (by rfl) (by go_simp) ?_
                        try simp only [Act.put, List.setIfInBounds_toArray, List.set_cons_zero, List.set_cons_succ]
                        refine wpList_val (v := .bool true) (w' := w33) rfl (by go_simp) ?_
                        try simp only [Act.put, List.setIfInBounds_toArray, List.set_cons_zero, List.set_cons_succ]
                        refine wpList_val (v := .bool true) (w' := w33) rfl (by go_simp) ?_
                        try simp only [Act.put, List.setIfInBounds_toArray, List.set_cons_zero, List.set_cons_succ]
                        go_wp2_with fail
                        go_ret
                        exact ⟨rfl, hbZ⟩
                      | false =>
                        obtain ⟨b, rfl⟩ := hv2 hp
                        have hh : ¬ (0 ≤ host ∧ host ≤ 15) := by unfold princL at hp; simpa using hp
                        clear hv1 hv2 hp
                        unfold errV
                        rcases Int.lt_or_le host 0 with hlt | hge
                        · refine wpList_valG (v := .bool false) (w' := w33) (by rfl) (by go_simp) ?_
                          try simp only [Act.put, List.setIfInBounds_toArray, List.set_cons_zero, List.set_cons_succ]
                          refine wpList_valG (v := .int .i64 host) (w' := w33) (by rfl) (by go_simp) ?_
                          try simp only [Act.put, List.setIfInBounds_toArray, List.set_cons_zero, List.set_cons_succ]
                          refine wpList_valG (v := .bool false) (w' := w33) (by rfl) (by have q : decide ((0 : Int) ≤ host) = false := (by simp; omega); go_simp) ?_
                          try simp only [Act.put, List.setIfInBounds_toArray, List.set_cons_zero, List.set_cons_succ]
                          refine wpList_valG (v := .bool false) (w' := w33) (by rfl) (by go_simp) ?_
                          try simp only [Act.put, List.setIfInBounds_toArray, List.set_cons_zero, List.set_cons_succ]
                          refine _root_.Go.wpList_skip (by rfl) ?_
                          try simp only [Act.put, List.setIfInBounds_toArray, List.set_cons_zero, List.set_cons_succ]
                          refine _root_.Go.wpList_skip (by rfl) ?_
                          try simp only [Act.put, List.setIfInBounds_toArray, List.set_cons_zero, List.set_cons_succ]
                          refine wpList_valG (v := .bool false) (w' := w33) (by rfl) (by go_simp) ?_
                          try simp only [Act.put, List.setIfInBounds_toArray, List.set_cons_zero, List.set_cons_succ]
                          refine wpList_valG (v := .bool true) (w' := w33) (by rfl) (by go_simp) ?_
                          try simp only [Act.put, List.setIfInBounds_toArray, List.set_cons_zero, List.set_cons_succ]
                          refine wpList_val (v := .bool true) (w' := w33) rfl (by go_simp) ?_
                          try simp only [Act.put, List.setIfInBounds_toArray, List.set_cons_zero, List.set_cons_succ]
                          refine wpList_val (v := .bool true) (w' := w33) rfl (by go_simp) ?_
                          try simp only [Act.put, List.setIfInBounds_toArray, List.set_cons_zero, List.set_cons_succ]
                          go_wp2_with fail
                          go_ret
                          exact ⟨rfl, hbZ⟩
                        · refine wpList_valG (v := .bool false) (w' := w33) (by rfl) (by go_simp) ?_
                          try simp only [Act.put, List.setIfInBounds_toArray, List.set_cons_zero, List.set_cons_succ]
                          refine wpList_valG (v := .int .i64 host) (w' := w33) (by rfl) (by go_simp) ?_
                          try simp only [Act.put, List.setIfInBounds_toArray, List.set_cons_zero, List.set_cons_succ]
                          refine wpList_valG (v := .bool true) (w' := w33) (by rfl) (by have q : decide ((0 : Int) ≤ host) = true := (by simp; omega); go_simp) ?_
                          try simp only [Act.put, List.setIfInBounds_toArray, List.set_cons_zero, List.set_cons_succ]
                          refine wpList_valG (v := .bool true) (w' := w33) (by rfl) (by go_simp) ?_
                          try simp only [Act.put, List.setIfInBounds_toArray, List.set_cons_zero, List.set_cons_succ]
                          refine wpList_valG (v := .int .i64 host) (w' := w33) (by rfl) (by go_simp) ?_
                          try simp only [Act.put, List.setIfInBounds_toArray, List.set_cons_zero, List.set_cons_succ]
                          refine wpList_valG (v := .bool false) (w' := w33) (by rfl) (by have q : decide (host ≤ (15 : Int)) = false := (by simp; omega); go_simp) ?_
                          try simp only [Act.put, List.setIfInBounds_toArray, List.set_cons_zero, List.set_cons_succ]
                          refine wpList_valG (v := .bool false) (w' := w33) (by rfl) (by go_simp) ?_
                          try simp only [Act.put, List.setIfInBounds_toArray, List.set_cons_zero, List.set_cons_succ]
                          refine wpList_valG (v := .bool true) (w' := w33) (by rfl) (by go_simp) ?_
                          try simp only [Act.put, List.setIfInBounds_toArray, List.set_cons_zero, List.set_cons_succ]
                          refine wpList_val (v := .bool true) (w' := w33) rfl (by go_simp) ?_
                          try simp only [Act.put, List.setIfInBounds_toArray, List.set_cons_zero, List.set_cons_succ]
                          refine wpList_val (v := .bool true) (w' := w33) rfl (by go_simp) ?_
                          try simp only [Act.put, List.setIfInBounds_toArray, List.set_cons_zero, List.set_cons_succ]
                          go_wp2_with fail
                          go_ret
                          exact ⟨rfl, hbZ⟩
                    | false =>
                      refine wp_region_lit ?_
                      refine wpList_val (v := .bool false) (w' := wr) rfl (by go_simp) ?_
                      try simp only [Act.put, List.setIfInBounds_toArray, List.set_cons_zero, List.set_cons_succ]
                      refine wpList_val (v := .int .i64 host) (w' := wr) rfl (by go_simp) ?_
                      try simp only [Act.put, List.setIfInBounds_toArray, List.set_cons_zero, List.set_cons_succ]
                      refine wpList_call_ rfl (by go_simp) (cplain_c (HT.out _ hbr).1 host) ?_
                      rintro o w7 ⟨P0, s0, t0, P1, s1, t1, P2, s2, t2, P3, s3, t3, P4, s4, t4, P5, s5, t5, P6, s6, t6, P7, s7, t7, P8, t8, P9, t9, rfl, hP, hb7⟩
                      refine ⟨_, rfl, ?_⟩
                      try simp only [Act.put, List.setIfInBounds_toArray, List.set_cons_zero, List.set_cons_succ]
                      obtain ⟨cp, hcp⟩ : ∃ c : Array Value, c = #[.bool false, .string ⟨#[112, 108, 97, 105, 110]⟩, .string ⟨#[]⟩, .slice P0 s0 t0, .slice P1 s1 t1, .slice P2 s2 t2, .slice P3 s3 t3, .slice P4 s4 t4, .slice P5 s5 t5, .slice P6 s6 t6, .slice P7 s7 t7, .slice P8 1 t8, .int .i64 0, .slice none 0 0, .int .i64 0, .int .i64 host, .string ⟨#[97, 110, 110]⟩, .slice P9 1 t9, .bool true, .bool false, .int .u32 2048, .int .u32 3072, .int .u32 8192] := ⟨_, rfl⟩
                      rw [← hcp]
                      have hpl : cp.toList.length = 23 := by rw [hcp]; rfl
                      have hp1 : cp.all (·.oneCell') = true := by rw [hcp]; simp [Value.oneCell']
                      have Hcp := hide hcp
                      clear hcp
                      refine wpList_val (v := .pointer (some ⟨w7.heap.size, 0, none⟩)) (w' := w7.alloc (.cells zeroC 30)) rfl (allocC _ rfl _ _) ?_
                      try simp only [Act.put, List.setIfInBounds_toArray, List.set_cons_zero, List.set_cons_succ]
                      refine wpList_store_conf rfl (.tmp 13) (.tmp 76) rfl (by rfl) (by rfl) (Blk.new w7 30 zeroC) rfl hpl hp1 ?_
                      try simp only [Act.put, List.setIfInBounds_toArray, List.set_cons_zero, List.set_cons_succ]
                      have hXp : Blk ((w7.alloc (.cells zeroC 30)).setCells w7.heap.size 0 cp.toList) w7.heap.size 30 cp := by
                        have h9 := Blk.setCells cp.toList 0 (Blk.new w7 30 zeroC)
                        rw [wrA_all (by rw [hpl]; rfl), Array.toArray_toList] at h9
                        exact h9
                      have hbp : Below w7.heap.size w7 ((w7.alloc (.cells zeroC 30)).setCells w7.heap.size 0 cp.toList) := below_setCells (Nat.le_refl _) cp.toList 0 (bel_newN _)
                      obtain ⟨w8, hw8⟩ : ∃ W, W = (w7.alloc (.cells zeroC 30)).setCells w7.heap.size 0 cp.toList := ⟨_, rfl⟩
                      rw [← hw8] at hXp hbp ⊢
                      obtain ⟨b3, hdb3⟩ : ∃ b, b = w7.heap.size := ⟨_, rfl⟩
                      have hleb3 : w7.heap.size ≤ b3 := by rw [hdb3]; exact Nat.le_refl _
                      rw [← hdb3] at hXp ⊢
                      have hP8 := hP.below hbp
                      have hbr8 := hbr.trans ((hb7.trans (hbp.mono hb7.size)).mono hbr.size)
                      clear hw8 hdb3 hP hp1
                      go_upto_region 24 with fail
                      refine wp_region_lit ?_
                      refine wpList_val (v := .bool false) (w' := w8) rfl (by go_simp) ?_
                      try simp only [Act.put, List.setIfInBounds_toArray, List.set_cons_zero, List.set_cons_succ]
                      refine wpList_call_ rfl (by go_simp) (pplain_any (HT.out _ hbr8).1) ?_
                      rintro o w9 ⟨Q0, x0, z0, Q1, x1, z1, Q2, x2, z2, Q3, x3, z3, Q4, x4, z4, Q5, x5, z5, Q6, x6, z6, Q7, x7, z7, rfl, hQN, hb9⟩
                      refine ⟨_, rfl, ?_⟩
                      try simp only [Act.put, List.setIfInBounds_toArray, List.set_cons_zero, List.set_cons_succ]
                      have hP9 := hP8.below hb9
                      have hXp9 := hXp.below hb9 hXp.lt
                      have hbr9 := hbr8.trans (hb9.mono hbr8.size)
                      have h89 := hb7.trans ((hbp.trans (hb9.mono hbp.size)).mono hb7.size)
                      clear hP8 hXp hbp hbr8 hb7 hb9
                      obtain ⟨w10, hw10⟩ : ∃ W, W = w9.alloc (.cells #[.string ⟨#[115, 115, 104, 45, 101, 100, 50, 53, 53, 49, 57]⟩] 9) := ⟨_, rfl⟩
                      refine wpList_val (v := .slice (some ⟨w9.heap.size, 0, none⟩) 1 1) (w' := w10) rfl (by rw [hw10]; go_simp) ?_
                      try simp only [Act.put, List.setIfInBounds_toArray, List.set_cons_zero, List.set_cons_succ]
                      have hS1 : Blk w10 w9.heap.size 9 #[.string ⟨#[115, 115, 104, 45, 101, 100, 50, 53, 53, 49, 57]⟩] := by rw [hw10]; exact Blk.new w9 _ _
                      have hbB : Below w9.heap.size w9 w10 := by rw [hw10]; exact bel_newN _
                      clear hw10
                      refine wpList_val (v := .agg #[.bool false, .string ⟨#[112, 108, 97, 105, 110]⟩, .string ⟨#[]⟩, .slice Q0 x0 z0, .slice Q1 x1 z1, .slice Q2 x2 z2, .slice Q3 x3 z3, .slice Q4 x4 z4, .slice Q5 x5 z5, .slice Q6 x6 z6, .slice Q7 x7 z7, .slice (some ⟨w9.heap.size, 0, none⟩) 1 1, .int .i64 0, .slice none 0 0, .int .i64 0, .int .i64 0, .string ⟨#[]⟩, .slice none 0 0, .bool false, .bool false, .int .u32 0, .int .u32 0, .int .u32 0]) (w' := w10) rfl (by go_simp) ?_
                      try simp only [Act.put, List.setIfInBounds_toArray, List.set_cons_zero, List.set_cons_succ]
                      obtain ⟨cq, hcq⟩ : ∃ c : Array Value, c = #[.bool false, .string ⟨#[112, 108, 97, 105, 110]⟩, .string ⟨#[]⟩, .slice Q0 x0 z0, .slice Q1 x1 z1, .slice Q2 x2 z2, .slice Q3 x3 z3, .slice Q4 x4 z4, .slice Q5 x5 z5, .slice Q6 x6 z6, .slice Q7 x7 z7, .slice (some ⟨w9.heap.size, 0, none⟩) 1 1, .int .i64 0, .slice none 0 0, .int .i64 0, .int .i64 0, .string ⟨#[]⟩, .slice none 0 0, .bool false, .bool false, .int .u32 0, .int .u32 0, .int .u32 0] := ⟨_, rfl⟩
                      rw [← hcq]
                      have hql : cq.toList.length = 23 := by rw [hcq]; rfl
                      have hq1 : cq.all (·.oneCell') = true := by rw [hcq]; simp [Value.oneCell']
                      refine wpList_val (v := .pointer (some ⟨w10.heap.size, 0, none⟩)) (w' := w10.alloc (.cells zeroC 30)) rfl (allocC _ rfl _ _) ?_
                      try simp only [Act.put, List.setIfInBounds_toArray, List.set_cons_zero, List.set_cons_succ]
                      refine wpList_store_conf rfl (.tmp 14) (.tmp 80) rfl (by rfl) (by rfl) (Blk.new w10 30 zeroC) rfl hql hq1 ?_
                      try simp only [Act.put, List.setIfInBounds_toArray, List.set_cons_zero, List.set_cons_succ]
                      have hXq : Blk ((w10.alloc (.cells zeroC 30)).setCells w10.heap.size 0 cq.toList) w10.heap.size 30 cq := by
                        have h9 := Blk.setCells cq.toList 0 (Blk.new w10 30 zeroC)
                        rw [wrA_all (by rw [hql]; rfl), Array.toArray_toList] at h9
                        exact h9
                      have hbq : Below w10.heap.size w10 ((w10.alloc (.cells zeroC 30)).setCells w10.heap.size 0 cq.toList) := below_setCells (Nat.le_refl _) cq.toList 0 (bel_newN _)
                      obtain ⟨w11, hw11⟩ : ∃ W, W = (w10.alloc (.cells zeroC 30)).setCells w10.heap.size 0 cq.toList := ⟨_, rfl⟩
                      rw [← hw11] at hXq hbq ⊢
                      obtain ⟨b4, hdb4⟩ : ∃ b, b = w10.heap.size := ⟨_, rfl⟩
                      have hleb4 : w10.heap.size ≤ b4 := by rw [hdb4]; exact Nat.le_refl _
                      rw [← hdb4] at hXq ⊢
                      rw [hcq] at hXq
                      have hlt1 := hS1.lt
                      have hS1 := hS1.below hbq hS1.lt
                      have hbB := hbB.trans (hbq.mono hbB.size)
                      have hne1 : w9.heap.size ≠ b4 := by omega
                      have hge : w9.heap.size ≤ b4 := by omega
                      clear hw11 hdb4 hleb4 hlt1 hbq hcq hq1 hql
                      go_upto_region 25 with fail
                      go_upto_region 27 with fail
                      refine wp_region_lit ?_
                      refine wpList_val (v := .int .i64 host) (w' := w11) rfl (by go_simp) ?_
                      try simp only [Act.put, List.setIfInBounds_toArray, List.set_cons_zero, List.set_cons_succ]
                      obtain ⟨w12, hw⟩ : ∃ W, W = w11.alloc (.cells #[.int .i64 8] 3) := ⟨_, rfl⟩
                      obtain ⟨b5, hb5⟩ : ∃ b, b = w11.heap.size := ⟨_, rfl⟩
                      refine wpList_val (v := .slice (some ⟨b5, 0, none⟩) 1 1) (w' := w12) rfl (by rw [hw, hb5]; go_simp) ?_
                      try simp only [Act.put, List.setIfInBounds_toArray, List.set_cons_zero, List.set_cons_succ]
                      have hS2 : Blk w12 b5 3 #[.int .i64 8] := by rw [hw, hb5]; exact Blk.new w11 _ _
                      have hbz : Below w11.heap.size w11 w12 := by rw [hw]; exact bel_newN _
                      have hne2 : b5 ≠ b4 := by have := hXq.lt; omega
                      have hXq := hXq.below hbz hXq.lt
                      have hS1 := hS1.below hbz hS1.lt
                      have hbB := hbB.trans (hbz.mono hbB.size)
                      clear hw hb5 hbz
                      refine wpList_val (v := .agg #[.int .u32 2048, .int .u32 3072, .int .u32 8192]) (w' := w12) rfl (by go_simp) ?_
                      try simp only [Act.put, List.setIfInBounds_toArray, List.set_cons_zero, List.set_cons_succ]
                      have y := hXq.cell 15
                      have z := hXq.frozen 15
                      simp only [List.getElem?_toArray, List.getElem?_cons_zero, List.getElem?_cons_succ] at y
                      refine wpList_val (v := .pointer (some ⟨b4, 15, none⟩)) (w' := w12) rfl (by go_simp) ?_
                      try simp only [Act.put, List.setIfInBounds_toArray, List.set_cons_zero, List.set_cons_succ]
                      refine wpList_skip (w' := w12.setCell ⟨b4, 15, none⟩ (.int .i64 host)) rfl (by go_simp) ?_
                      try simp only [Act.put, List.setIfInBounds_toArray, List.set_cons_zero, List.set_cons_succ]
                      clear y z
                      have hXq2 : Blk (w12.setCell ⟨b4, 15, none⟩ (.int .i64 host)) b4 30 #[.bool false, .string ⟨#[112, 108, 97, 105, 110]⟩, .string ⟨#[]⟩, .slice Q0 x0 z0, .slice Q1 x1 z1, .slice Q2 x2 z2, .slice Q3 x3 z3, .slice Q4 x4 z4, .slice Q5 x5 z5, .slice Q6 x6 z6, .slice Q7 x7 z7, .slice (some ⟨w9.heap.size, 0, none⟩) 1 1, .int .i64 0, .slice none 0 0, .int .i64 0, .int .i64 host, .string ⟨#[]⟩, .slice none 0 0, .bool false, .bool false, .int .u32 0, .int .u32 0, .int .u32 0] := by
                        have h9 := hXq.set_ 15 (.int .i64 host)
                        simpa using h9
                      have hS12 := hS1.far (p := ⟨b4, 15, none⟩) hne1 (.int .i64 host)
                      have hS22 := hS2.far (p := ⟨b4, 15, none⟩) hne2 (.int .i64 host)
                      have hbB2 := hbB.setCell (p := ⟨b4, 15, none⟩) hge (.int .i64 host)
                      generalize w12.setCell ⟨b4, 15, none⟩ (.int .i64 host) = w13 at hXq2 hS12 hS22 hbB2 ⊢
                      clear hXq hS1 hS2 hbB
                      have hXq := hXq2
                      have hS1 := hS12
                      have hS2 := hS22
                      have hbB := hbB2
                      clear hXq2 hS12 hS22 hbB2
                      have y := hXq.cell 16
                      have z := hXq.frozen 16
                      simp only [List.getElem?_toArray, List.getElem?_cons_zero, List.getElem?_cons_succ] at y
                      refine wpList_val (v := .pointer (some ⟨b4, 16, none⟩)) (w' := w13) rfl (by go_simp) ?_
                      try simp only [Act.put, List.setIfInBounds_toArray, List.set_cons_zero, List.set_cons_succ]
                      refine wpList_skip (w' := w13.setCell ⟨b4, 16, none⟩ (.string ⟨#[97, 110, 110]⟩)) rfl (by go_simp) ?_
                      try simp only [Act.put, List.setIfInBounds_toArray, List.set_cons_zero, List.set_cons_succ]
                      clear y z
                      have hXq2 : Blk (w13.setCell ⟨b4, 16, none⟩ (.string ⟨#[97, 110, 110]⟩)) b4 30 #[.bool false, .string ⟨#[112, 108, 97, 105, 110]⟩, .string ⟨#[]⟩, .slice Q0 x0 z0, .slice Q1 x1 z1, .slice Q2 x2 z2, .slice Q3 x3 z3, .slice Q4 x4 z4, .slice Q5 x5 z5, .slice Q6 x6 z6, .slice Q7 x7 z7, .slice (some ⟨w9.heap.size, 0, none⟩) 1 1, .int .i64 0, .slice none 0 0, .int .i64 0, .int .i64 host, .string ⟨#[97, 110, 110]⟩, .slice none 0 0, .bool false, .bool false, .int .u32 0, .int .u32 0, .int .u32 0] := by
                        have h9 := hXq.set_ 16 (.string ⟨#[97, 110, 110]⟩)
                        simpa using h9
                      have hS12 := hS1.far (p := ⟨b4, 16, none⟩) hne1 (.string ⟨#[97, 110, 110]⟩)
                      have hS22 := hS2.far (p := ⟨b4, 16, none⟩) hne2 (.string ⟨#[97, 110, 110]⟩)
                      have hbB2 := hbB.setCell (p := ⟨b4, 16, none⟩) hge (.string ⟨#[97, 110, 110]⟩)
                      generalize w13.setCell ⟨b4, 16, none⟩ (.string ⟨#[97, 110, 110]⟩) = w14 at hXq2 hS12 hS22 hbB2 ⊢
                      clear hXq hS1 hS2 hbB
                      have hXq := hXq2
                      have hS1 := hS12
                      have hS2 := hS22
                      have hbB := hbB2
                      clear hXq2 hS12 hS22 hbB2
                      have y := hXq.cell 17
                      have z := hXq.frozen 17
                      simp only [List.getElem?_toArray, List.getElem?_cons_zero, List.getElem?_cons_succ] at y
                      refine wpList_val (v := .pointer (some ⟨b4, 17, none⟩)) (w' := w14) rfl (by go_simp) ?_
                      try simp only [Act.put, List.setIfInBounds_toArray, List.set_cons_zero, List.set_cons_succ]
                      refine wpList_skip (w' := w14.setCell ⟨b4, 17, none⟩ (.slice (some ⟨b5, 0, none⟩) 1 1)) rfl (by go_simp) ?_
                      try simp only [Act.put, List.setIfInBounds_toArray, List.set_cons_zero, List.set_cons_succ]
                      clear y z
                      have hXq2 : Blk (w14.setCell ⟨b4, 17, none⟩ (.slice (some ⟨b5, 0, none⟩) 1 1)) b4 30 #[.bool false, .string ⟨#[112, 108, 97, 105, 110]⟩, .string ⟨#[]⟩, .slice Q0 x0 z0, .slice Q1 x1 z1, .slice Q2 x2 z2, .slice Q3 x3 z3, .slice Q4 x4 z4, .slice Q5 x5 z5, .slice Q6 x6 z6, .slice Q7 x7 z7, .slice (some ⟨w9.heap.size, 0, none⟩) 1 1, .int .i64 0, .slice none 0 0, .int .i64 0, .int .i64 host, .string ⟨#[97, 110, 110]⟩, .slice (some ⟨b5, 0, none⟩) 1 1, .bool false, .bool false, .int .u32 0, .int .u32 0, .int .u32 0] := by
                        have h9 := hXq.set_ 17 (.slice (some ⟨b5, 0, none⟩) 1 1)
                        simpa using h9
                      have hS12 := hS1.far (p := ⟨b4, 17, none⟩) hne1 (.slice (some ⟨b5, 0, none⟩) 1 1)
                      have hS22 := hS2.far (p := ⟨b4, 17, none⟩) hne2 (.slice (some ⟨b5, 0, none⟩) 1 1)
                      have hbB2 := hbB.setCell (p := ⟨b4, 17, none⟩) hge (.slice (some ⟨b5, 0, none⟩) 1 1)
                      generalize w14.setCell ⟨b4, 17, none⟩ (.slice (some ⟨b5, 0, none⟩) 1 1) = w15 at hXq2 hS12 hS22 hbB2 ⊢
                      clear hXq hS1 hS2 hbB
                      have hXq := hXq2
                      have hS1 := hS12
                      have hS2 := hS22
                      have hbB := hbB2
                      clear hXq2 hS12 hS22 hbB2
                      have y := hXq.cell 18
                      have z := hXq.frozen 18
                      simp only [List.getElem?_toArray, List.getElem?_cons_zero, List.getElem?_cons_succ] at y
                      refine wpList_val (v := .pointer (some ⟨b4, 18, none⟩)) (w' := w15) rfl (by go_simp) ?_
                      try simp only [Act.put, List.setIfInBounds_toArray, List.set_cons_zero, List.set_cons_succ]
                      refine wpList_skip (w' := w15.setCell ⟨b4, 18, none⟩ (.bool true)) rfl (by go_simp) ?_
                      try simp only [Act.put, List.setIfInBounds_toArray, List.set_cons_zero, List.set_cons_succ]
                      clear y z
                      have hXq2 : Blk (w15.setCell ⟨b4, 18, none⟩ (.bool true)) b4 30 #[.bool false, .string ⟨#[112, 108, 97, 105, 110]⟩, .string ⟨#[]⟩, .slice Q0 x0 z0, .slice Q1 x1 z1, .slice Q2 x2 z2, .slice Q3 x3 z3, .slice Q4 x4 z4, .slice Q5 x5 z5, .slice Q6 x6 z6, .slice Q7 x7 z7, .slice (some ⟨w9.heap.size, 0, none⟩) 1 1, .int .i64 0, .slice none 0 0, .int .i64 0, .int .i64 host, .string ⟨#[97, 110, 110]⟩, .slice (some ⟨b5, 0, none⟩) 1 1, .bool true, .bool false, .int .u32 0, .int .u32 0, .int .u32 0] := by
                        have h9 := hXq.set_ 18 (.bool true)
                        simpa using h9
                      have hS12 := hS1.far (p := ⟨b4, 18, none⟩) hne1 (.bool true)
                      have hS22 := hS2.far (p := ⟨b4, 18, none⟩) hne2 (.bool true)
                      have hbB2 := hbB.setCell (p := ⟨b4, 18, none⟩) hge (.bool true)
                      generalize w15.setCell ⟨b4, 18, none⟩ (.bool true) = w16 at hXq2 hS12 hS22 hbB2 ⊢
                      clear hXq hS1 hS2 hbB
                      have hXq := hXq2
                      have hS1 := hS12
                      have hS2 := hS22
                      have hbB := hbB2
                      clear hXq2 hS12 hS22 hbB2
                      refine wpList_val (v := .pointer (some ⟨b4, 20, none⟩)) (w' := w16) rfl (by go_simp) ?_
                      try simp only [Act.put, List.setIfInBounds_toArray, List.set_cons_zero, List.set_cons_succ]
                      refine wpList_store_mid rfl 28 (.tmp 95) (.tmp 90) rfl b4 20 #[.int .u32 2048, .int .u32 3072, .int .u32 8192] (by rfl) (by rfl) (blk_there_mid hXq (by simp)) info28 (by simp [Value.oneCell']) ?_
                      try simp only [Act.put, List.setIfInBounds_toArray, List.set_cons_zero, List.set_cons_succ]
                      have hXq2 : Blk (w16.setCells b4 20 [.int .u32 2048, .int .u32 3072, .int .u32 8192]) b4 30 #[.bool false, .string ⟨#[112, 108, 97, 105, 110]⟩, .string ⟨#[]⟩, .slice Q0 x0 z0, .slice Q1 x1 z1, .slice Q2 x2 z2, .slice Q3 x3 z3, .slice Q4 x4 z4, .slice Q5 x5 z5, .slice Q6 x6 z6, .slice Q7 x7 z7, .slice (some ⟨w9.heap.size, 0, none⟩) 1 1, .int .i64 0, .slice none 0 0, .int .i64 0, .int .i64 host, .string ⟨#[97, 110, 110]⟩, .slice (some ⟨b5, 0, none⟩) 1 1, .bool true, .bool false, .int .u32 2048, .int .u32 3072, .int .u32 8192] := by
                        have h9 := Blk.setCells [.int .u32 2048, .int .u32 3072, .int .u32 8192] 20 hXq
                        simpa [wrA] using h9
                      have hS12 := Blk.setCells_far (b := b4) hne1 [.int .u32 2048, .int .u32 3072, .int .u32 8192] 20 hS1
                      have hS22 := Blk.setCells_far (b := b4) hne2 [.int .u32 2048, .int .u32 3072, .int .u32 8192] 20 hS2
                      have hbB2 := below_setCells (b := b4) hge [.int .u32 2048, .int .u32 3072, .int .u32 8192] 20 hbB
                      show wpList _ _ _ _ _ (w16.setCells b4 20 [.int .u32 2048, .int .u32 3072, .int .u32 8192])
                      generalize w16.setCells b4 20 [.int .u32 2048, .int .u32 3072, .int .u32 8192] = w17 at hXq2 hS12 hS22 hbB2 ⊢
                      clear hXq hS1 hS2 hbB
                      have hXq := hXq2
                      have hS1 := hS12
                      have hS2 := hS22
                      have hbB := hbB2
                      clear hXq2 hS12 hS22 hbB2
                      have hQf : CfM w17 [112, 108, 97, 105, 110] [] [97, 110, 110] [.slice Q0 x0 z0, .slice Q1 x1 z1, .slice Q2 x2 z2, .slice Q3 x3 z3, .slice Q4 x4 z4, .slice Q5 x5 z5, .slice Q6 x6 z6, .slice Q7 x7 z7] plainLs (some ⟨w9.heap.size, 0, none⟩) 1 [[115, 115, 104, 45, 101, 100, 50, 53, 53, 49, 57]] none [] (some ⟨b5, 0, none⟩) [8] := by
                        refine ⟨by decide, by decide, by decide, ⟨rfl, rfl, fun i v l h1 h2 => ⟨((hQN i v l h1 h2).belowW hbB).txc, plainLs_ok l (List.mem_of_getElem? h2)⟩⟩, (newC_of (lo := 0) (Blk.strs (ss := [⟨#[115, 115, 104, 45, 101, 100, 50, 53, 53, 49, 57]⟩]) hS1 (Nat.zero_le _) 1) (by decide)).txc.1, by decide, by decide, by decide, fun k hk => by simp at hk, by decide, by decide, inc_blk hS2, by decide⟩
                      have hbrw17 := hbr9.trans (hbB.mono hbr9.size)
                      have hPF := hP9.below hbB
                      have hXpF := hXp9.below hbB hXp9.lt
                      have hbF4 := HK.out.bel.trans ((h89.trans (hbB.mono h89.size)).mono HK.out.bel.size)
                      have hXcF := H4.out.2.1.below hbF4 H4.out.2.1.lt
                      have hXdF := H4.out.2.2.below hbF4 H4.out.2.2.lt
                      have HS2 := hide (fun (W : World) (hb : Below w17.heap.size w17 W) => show Calls Tryd.prog 8 #[.agg cp, .agg #[.bool false, .string ⟨#[112, 108, 97, 105, 110]⟩, .string ⟨#[]⟩, .slice Q0 x0 z0, .slice Q1 x1 z1, .slice Q2 x2 z2, .slice Q3 x3 z3, .slice Q4 x4 z4, .slice Q5 x5 z5, .slice Q6 x6 z6, .slice Q7 x7 z7, .slice (some ⟨w9.heap.size, 0, none⟩) 1 1, .int .i64 0, .slice none 0 0, .int .i64 0, .int .i64 host, .string ⟨#[97, 110, 110]⟩, .slice (some ⟨b5, 0, none⟩) 1 1, .bool true, .bool false, .int .u32 2048, .int .u32 3072, .int .u32 8192]] W (fun o w' => o = .returned (.bool true) ∧ Below W.heap.size W w') from by
                        have key := same25_true (sv := false) (ex := true) (ge := false) (own := 0) (lim := 0) (peer := host) (q0 := 2048) (q1 := 3072) (q2 := 8192) (c9 := 0) (c10 := t9) (e9 := 0) (e10 := 1) (hPF.below hb) (hQf.below hb)
                        rw [Hcp.out]
                        exact key)
                      have HCk := hide (fun (W : World) (hb : Below w17.heap.size w17 W) => show Calls Tryd.prog 11 #[.agg cp] W (CkP host W) from by rw [Hcp.out]; exact ckq_c (HT.out _ (hbrw17.trans (hb.mono hbrw17.size))).1 (HT.out _ (hbrw17.trans (hb.mono hbrw17.size))).2 (hPF.below hb))
                      have h3F := Hb4.out.trans (hbF4.mono Hb4.out.size)
                      generalize hcq : (#[.bool false, .string ⟨#[112, 108, 97, 105, 110]⟩, .string ⟨#[]⟩, .slice Q0 x0 z0, .slice Q1 x1 z1, .slice Q2 x2 z2, .slice Q3 x3 z3, .slice Q4 x4 z4, .slice Q5 x5 z5, .slice Q6 x6 z6, .slice Q7 x7 z7, .slice (some ⟨w9.heap.size, 0, none⟩) 1 1, .int .i64 0, .slice none 0 0, .int .i64 0, .int .i64 host, .string ⟨#[97, 110, 110]⟩, .slice (some ⟨b5, 0, none⟩) 1 1, .bool true, .bool false, .int .u32 2048, .int .u32 3072, .int .u32 8192] : Array Value) = cq at HS2 hXq
                      have hql : cq.toList.length = 23 := by rw [← hcq]; rfl
                      clear hcq hQf hPF hP9 hXp9 hQN hS1 hS2 hne1 hne2 hge hbF4 hbr9 h89 hbB
                      go_upto_region 28 with fail
                      refine wp_region_lit ?_
                      refine wpList_call_ rfl (by go_simp) (HA.out _ hbrw17) ?_
                      rintro o w30 ⟨rfl, hb30⟩
                      refine ⟨_, rfl, ?_⟩
                      try simp only [Act.put, List.setIfInBounds_toArray, List.set_cons_zero, List.set_cons_succ]
                      have hXc1 := hXcF.below hb30 hXcF.lt
                      have hXd1 := hXdF.below hb30 hXdF.lt
                      have hXp1 := hXpF.below hb30 hXpF.lt
                      have hXq1 := hXq.below hb30 hXq.lt
                      refine wpList_val (v := .bool true) (w' := w30) rfl (by go_simp) ?_
                      try simp only [Act.put, List.setIfInBounds_toArray, List.set_cons_zero, List.set_cons_succ]
                      refine wpList_load_confG (by rfl) (.tmp 3) rfl (by rfl) hXc1 hcl ?_
                      try simp only [Act.put, List.setIfInBounds_toArray, List.set_cons_zero, List.set_cons_succ]
                      refine wpList_load_confG (by rfl) (.tmp 7) rfl (by rfl) hXd1 hdl ?_
                      try simp only [Act.put, List.setIfInBounds_toArray, List.set_cons_zero, List.set_cons_succ]
                      refine wpList_callG (by rfl) (by go_simp) (HS1.out _ (h3F.trans (hb30.mono h3F.size))) ?_
                      rintro o w31 ⟨rfl, hb31⟩
                      refine ⟨_, rfl, ?_⟩
                      try simp only [Act.put, List.setIfInBounds_toArray, List.set_cons_zero, List.set_cons_succ]
                      have hXp2 := hXp1.below hb31 hXp1.lt
                      have hXq2 := hXq1.below hb31 hXq1.lt
                      have hb3031 := hb30.trans (hb31.mono hb30.size)
                      refine wpList_val (v := .bool true) (w' := w31) rfl (by go_simp) ?_
                      try simp only [Act.put, List.setIfInBounds_toArray, List.set_cons_zero, List.set_cons_succ]
                      refine wpList_val (v := .bool true) (w' := w31) rfl (by go_simp) ?_
                      try simp only [Act.put, List.setIfInBounds_toArray, List.set_cons_zero, List.set_cons_succ]
                      refine wpList_load_confG (by rfl) (.tmp 13) rfl (by rfl) hXp2 hpl ?_
                      try simp only [Act.put, List.setIfInBounds_toArray, List.set_cons_zero, List.set_cons_succ]
                      refine wpList_load_confG (by rfl) (.tmp 14) rfl (by rfl) hXq2 hql ?_
                      try simp only [Act.put, List.setIfInBounds_toArray, List.set_cons_zero, List.set_cons_succ]
                      refine wpList_callG (by rfl) (by go_simp) (HS2.out _ hb3031) ?_
                      rintro o w32 ⟨rfl, hb32⟩
                      refine ⟨_, rfl, ?_⟩
                      try simp only [Act.put, List.setIfInBounds_toArray, List.set_cons_zero, List.set_cons_succ]
                      have hXp3 := hXp2.below hb32 hXp2.lt
                      have hb3032 := hb3031.trans (hb32.mono hb3031.size)
                      refine wpList_val (v := .bool true) (w' := w32) rfl (by go_simp) ?_
                      try simp only [Act.put, List.setIfInBounds_toArray, List.set_cons_zero, List.set_cons_succ]
                      refine wpList_val (v := .bool true) (w' := w32) rfl (by go_simp) ?_
                      try simp only [Act.put, List.setIfInBounds_toArray, List.set_cons_zero, List.set_cons_succ]
                      refine wpList_load_confG (by rfl) (.tmp 13) rfl (by rfl) hXp3 hpl ?_
                      try simp only [Act.put, List.setIfInBounds_toArray, List.set_cons_zero, List.set_cons_succ]
                      refine wpList_callG (by rfl) (by go_simp) (HCk.out _ hb3032) ?_
                      rintro o w33 ⟨v, rfl, hv1, hv2, hb33⟩
                      refine ⟨_, rfl, ?_⟩
                      try simp only [Act.put, List.setIfInBounds_toArray, List.set_cons_zero, List.set_cons_succ]
                      have hbZ := hbrw17.trans ((hb3032.trans (hb33.mono hb3032.size)).mono hbrw17.size)
                      clear hXc1 hXd1 hXp1 hXq1 hXp2 hXq2 hXp3 hXcF hXdF hXpF hXq HS1 HS2 HCk HA HT H4 Hb4 HK h3F
                      cases hp : princL host with
                      | true =>
                        obtain rfl := hv1 hp
                        have hh : 0 ≤ host ∧ host ≤ 15 := by unfold princL at hp; simpa using hp
                        clear hv1 hv2 hp
                        refine wpList_valG (v := .bool true) (w' := w33) (by rfl) (by go_simp) ?_
                        try simp only [Act.put, List.setIfInBounds_toArray, List.set_cons_zero, List.set_cons_succ]
                        refine wpList_valG (v := .int .i64 host) (w' := w33) (by rfl) (by go_simp) ?_
                        try simp only [Act.put, List.setIfInBounds_toArray, List.set_cons_zero, List.set_cons_succ]
                        refine wpList_valG (v := .bool true) (w' := w33) (by rfl) (by have q : decide ((0 : Int) ≤ host) = true := (by simp; omega); go_simp) ?_
                        try simp only [Act.put, List.setIfInBounds_toArray, List.set_cons_zero, List.set_cons_succ]
                        refine wpList_valG (v := .bool true) (w' := w33) (by rfl) (by go_simp) ?_
                        try simp only [Act.put, List.setIfInBounds_toArray, List.set_cons_zero, List.set_cons_succ]
                        refine wpList_valG (v := .int .i64 host) (w' := w33) (by rfl) (by go_simp) ?_
                        try simp only [Act.put, List.setIfInBounds_toArray, List.set_cons_zero, List.set_cons_succ]
                        refine wpList_valG (v := .bool true) (w' := w33) (by rfl) (by have q : decide (host ≤ (15 : Int)) = true := (by simp; omega); go_simp) ?_
                        try simp only [Act.put, List.setIfInBounds_toArray, List.set_cons_zero, List.set_cons_succ]
                        refine wpList_valG (v := .bool true) (w' := w33) (by rfl) (by go_simp) ?_
                        try simp only [Act.put, List.setIfInBounds_toArray, List.set_cons_zero, List.set_cons_succ]
                        refine wpList_valG (v := .bool true) (w' := w33) (by rfl) (by go_simp) ?_
                        try simp only [Act.put, List.setIfInBounds_toArray, List.set_cons_zero, List.set_cons_succ]
                        refine wpList_val (v := .bool true) (w' := w33) rfl (by go_simp) ?_
                        try simp only [Act.put, List.setIfInBounds_toArray, List.set_cons_zero, List.set_cons_succ]
                        refine wpList_val (v := .bool true) (w' := w33) rfl (by go_simp) ?_
                        try simp only [Act.put, List.setIfInBounds_toArray, List.set_cons_zero, List.set_cons_succ]
                        go_wp2_with fail
                        go_ret
                        exact ⟨rfl, hbZ⟩
                      | false =>
                        obtain ⟨b, rfl⟩ := hv2 hp
                        have hh : ¬ (0 ≤ host ∧ host ≤ 15) := by unfold princL at hp; simpa using hp
                        clear hv1 hv2 hp
                        unfold errV
                        rcases Int.lt_or_le host 0 with hlt | hge
                        · refine wpList_valG (v := .bool false) (w' := w33) (by rfl) (by go_simp) ?_
                          try simp only [Act.put, List.setIfInBounds_toArray, List.set_cons_zero, List.set_cons_succ]
                          refine wpList_valG (v := .int .i64 host) (w' := w33) (by rfl) (by go_simp) ?_
                          try simp only [Act.put, List.setIfInBounds_toArray, List.set_cons_zero, List.set_cons_succ]
                          refine wpList_valG (v := .bool false) (w' := w33) (by rfl) (by have q : decide ((0 : Int) ≤ host) = false := (by simp; omega); go_simp) ?_
                          try simp only [Act.put, List.setIfInBounds_toArray, List.set_cons_zero, List.set_cons_succ]
                          refine wpList_valG (v := .bool false) (w' := w33) (by rfl) (by go_simp) ?_
                          try simp only [Act.put, List.setIfInBounds_toArray, List.set_cons_zero, List.set_cons_succ]
                          refine _root_.Go.wpList_skip (by rfl) ?_
                          try simp only [Act.put, List.setIfInBounds_toArray, List.set_cons_zero, List.set_cons_succ]
                          refine _root_.Go.wpList_skip (by rfl) ?_
                          try simp only [Act.put, List.setIfInBounds_toArray, List.set_cons_zero, List.set_cons_succ]
                          refine wpList_valG (v := .bool false) (w' := w33) (by rfl) (by go_simp) ?_
                          try simp only [Act.put, List.setIfInBounds_toArray, List.set_cons_zero, List.set_cons_succ]
                          refine wpList_valG (v := .bool true) (w' := w33) (by rfl) (by go_simp) ?_
                          try simp only [Act.put, List.setIfInBounds_toArray, List.set_cons_zero, List.set_cons_succ]
                          refine wpList_val (v := .bool true) (w' := w33) rfl (by go_simp) ?_
                          try simp only [Act.put, List.setIfInBounds_toArray, List.set_cons_zero, List.set_cons_succ]
                          refine wpList_val (v := .bool true) (w' := w33) rfl (by go_simp) ?_
                          try simp only [Act.put, List.setIfInBounds_toArray, List.set_cons_zero, List.set_cons_succ]
                          go_wp2_with fail
                          go_ret
                          exact ⟨rfl, hbZ⟩
                        · refine wpList_valG (v := .bool false) (w' := w33) (by rfl) (by go_simp) ?_
                          try simp only [Act.put, List.setIfInBounds_toArray, List.set_cons_zero, List.set_cons_succ]
                          refine wpList_valG (v := .int .i64 host) (w' := w33) (by rfl) (by go_simp) ?_
                          try simp only [Act.put, List.setIfInBounds_toArray, List.set_cons_zero, List.set_cons_succ]
                          refine wpList_valG (v := .bool true) (w' := w33) (by rfl) (by have q : decide ((0 : Int) ≤ host) = true := (by simp; omega); go_simp) ?_
                          try simp only [Act.put, List.setIfInBounds_toArray, List.set_cons_zero, List.set_cons_succ]
                          refine wpList_valG (v := .bool true) (w' := w33) (by rfl) (by go_simp) ?_
                          try simp only [Act.put, List.setIfInBounds_toArray, List.set_cons_zero, List.set_cons_succ]
                          refine wpList_valG (v := .int .i64 host) (w' := w33) (by rfl) (by go_simp) ?_
                          try simp only [Act.put, List.setIfInBounds_toArray, List.set_cons_zero, List.set_cons_succ]
                          refine wpList_valG (v := .bool false) (w' := w33) (by rfl) (by have q : decide (host ≤ (15 : Int)) = false := (by simp; omega); go_simp) ?_
                          try simp only [Act.put, List.setIfInBounds_toArray, List.set_cons_zero, List.set_cons_succ]
                          refine wpList_valG (v := .bool false) (w' := w33) (by rfl) (by go_simp) ?_
                          try simp only [Act.put, List.setIfInBounds_toArray, List.set_cons_zero, List.set_cons_succ]
                          refine wpList_valG (v := .bool true) (w' := w33) (by rfl) (by go_simp) ?_
                          try simp only [Act.put, List.setIfInBounds_toArray, List.set_cons_zero, List.set_cons_succ]
                          refine wpList_val (v := .bool true) (w' := w33) rfl (by go_simp) ?_
                          try simp only [Act.put, List.setIfInBounds_toArray, List.set_cons_zero, List.set_cons_succ]
                          refine wpList_val (v := .bool true) (w' := w33) rfl (by go_simp) ?_
                          try simp only [Act.put, List.setIfInBounds_toArray, List.set_cons_zero, List.set_cons_succ]
                          go_wp2_with fail
                          go_ret
                          exact ⟨rfl, hbZ⟩
end
end Go.Proofs.YtjaipdenahlheaaDoor
