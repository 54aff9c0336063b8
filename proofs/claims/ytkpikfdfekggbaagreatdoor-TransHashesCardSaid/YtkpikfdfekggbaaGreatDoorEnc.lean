/-
  The contracts of code's put and Encode: a term's bytes. Conditions: none but that the arena is one.
-/
import Derived.Test.YtkpikfdfekggbaaGreatDoorBldS
import Derived.Test.YtkpikfdfekggbaaGreatDoorHeadL
import Derived.Test.YtkpikfdfekggbaaGreatDoorMake
namespace Go.Proofs.YtkpikfdfekggbaaGreatDoor
open Go.RowKit Go.ChangeShapes Go.WideShapes Go.Sort

theorem enc_eta (t : Tm) : enc t = head t.k t.a t.b t.s.data.toList t.l.length ++ encs t.l := by
  cases t
  simp [enc, Tm.k, Tm.a, Tm.b, Tm.s, Tm.l]
theorem encs_take {l : List Tm} {i : Nat} (h : i < l.length) : encs (l.take (i + 1)) = encs (l.take i) ++ enc l[i] := by
  rw [List.take_succ_eq_append_getElem h, encs_append]
  simp [encs]
theorem encs_take_len (l : List Tm) (i : Nat) : (encs (l.take i)).length ≤ (encs l).length := by
  have h : encs l = encs (l.take i) ++ encs (l.drop i) := by rw [← encs_append, List.take_append_drop]
  rw [h, List.length_append]
  omega
theorem view_none {T : List Tm} {n : Int} {w w' : World} {e : Ending} (h : arg T n = none) (hv : Viewed T n w e w') :
    e = .returned (.tuple #[.agg #[.int .i64 0, .int .i64 0, .int .i64 0, .string ⟨#[]⟩, .slice none 0 0], .bool false]) ∧ Below w.heap.size w w' := by
  obtain ⟨hv | ⟨t, js, av, h1, _⟩, hb⟩ := hv
  · exact ⟨hv.2, hb⟩
  · rw [h] at h1; cases h1
theorem view_some {T : List Tm} {n : Int} {w w' : World} {e : Ending} {t : Tm} (h : arg T n = some t) (hv : Viewed T n w e w') :
    ∃ js A c, Args T t.l js ∧ e = .returned (.tuple #[.agg #[.int .i64 t.k, .int .i64 t.a, .int .i64 t.b, .string t.s, .slice A t.l.length c], .bool true]) ∧ w'.ownsRow w.heap.size 34 1 (.slice A t.l.length c) js.length ((js.map Int.ofNat).map (Value.int .i64)) ∧ Below w.heap.size w w' := by
  obtain ⟨hv | ⟨u, js, av, h1, ha, rfl, ho⟩, hb⟩ := hv
  · rw [h] at hv; cases hv.1
  · rw [h] at h1
    cases h1
    obtain ⟨A, c, rfl⟩ := own_sl ho
    rw [ha.len] at ho ⊢
    exact ⟨js, A, c, ha, rfl, by rw [ha.len]; exact ho, hb⟩
theorem encs_len (l : List Tm) : l.length ≤ (encs l).length := by
  induction l with
  | nil => exact Nat.le_refl _
  | cons t l ih =>
    have h1 : 1 ≤ (enc t).length := List.length_pos_iff.2 (enc_ne t)
    simp only [encs, List.length_append, List.length_cons]
    omega
/-- What put leaves. -/
def Wrote (B : Nat) (S : Nat → Prop) (b : Nat) (l : List UInt8) (w : World) (e : Ending) (w' : World) : Prop :=
  e = .returned (.tuple #[]) ∧ ∃ S', BlS B S' b l w' ∧ Grown S w S' w'
theorem Grown.outs_ {S S' : Nat → Prop} {w w' : World} (h : Grown S w S' w') : Outs S w w' := ⟨h.os, h.tape, h.output, h.size, h.block⟩
/-- A row's cells, where nothing of it has turned. -/
theorem row_cells {B : Nat} {w w' : World} {S : Nat → Prop} {A : Option Addr} {n c : Nat} {ns : List Int} (h : w.ownsRow B 34 1 (.slice A n c) ns.length (ns.map (Value.int .i64))) (ho : Outs S w w') (hS : ∀ i, B ≤ i → i < w.heap.size → ¬ S i) :
    ∀ (k : Nat) (j : Int), ns[k]? = some j → ∃ ad, A = some ad ∧ B ≤ ad.block ∧ ad.block < w.heap.size ∧ w'.cell? (ad.add k) = some (.int .i64 j) := by
  intro k j hk
  have hkl := (List.getElem?_eq_some_iff.1 hk).1
  obtain ⟨gb, cap, hv, hb, hlt⟩ := h.form (by omega)
  have hc := h.cells (g := gb) (by rw [hv]; rfl) k (.int .i64 j) (by rw [List.getElem?_map, hk]; rfl)
  have hA : A = some ⟨gb, 0, none⟩ := by injection hv
  exact ⟨_, hA, hb, hlt, ho.cell hc (by rw [block_of_add]; exact hS gb hb hlt)⟩
section
variable {B0 g : Nat} {w0 : World} {T : List Tm} {SA : Nat → Prop}
set_option maxHeartbeats 2000000 in
set_option maxRecDepth 100000 in
theorem cput_none (h0 : Ar B0 w0 g T SA) (b : Nat) (n : Int) (l : List UInt8) (S : Nat → Prop) (w : World) (E : arg T n = none) (hb : Below w0.heap.size w0 w) (hB : BlS w0.heap.size S b l w) :
    Calls Tryz.prog 52 #[.pointer (some ⟨b, 0, none⟩), .pointer (some ⟨g, 0, none⟩), .int .i64 n] w (Wrote w0.heap.size S b (l ++ txt (arg T n)) w) := by
  have HV := hide (aview_any (h0.below hb) n)
  have HB := hide hB
  have Eh := hide E
  rw [E]
  clear E h0 hB
  go_enter Tryz.func52, Tryz.ntmps52
  go_wp2_with (go_at_call 57; refine HV.out.mono ?_; rintro e w1 hv; obtain ⟨rfl, hb1⟩ := view_none Eh.out hv; clear hv)
  refine bodyPost_ret (results_none rfl _ _ _) rfl ?_
  have hb2 : Below w.heap.size w (w1.alloc (.cells #[.int .i64 0, .int .i64 0, .int .i64 0, .string ⟨#[]⟩, .slice none 0 0] 120)) := hb1.alloc hb1.size _
  exact ⟨rfl, S, by simpa [txt] using HB.out.below hb2, Grown.of_below hb2⟩
set_option maxHeartbeats 4000000 in
set_option maxRecDepth 100000 in
theorem cput_some (h0 : Ar B0 w0 g T SA) (b N : Nat) (ih : ∀ (n : Int) (l : List UInt8) (S : Nat → Prop) (w : World), n < N → Below w0.heap.size w0 w → BlS w0.heap.size S b l w → l.length + (txt (arg T n)).length ≤ 1000000000000 →
      Calls Tryz.prog 52 #[.pointer (some ⟨b, 0, none⟩), .pointer (some ⟨g, 0, none⟩), .int .i64 n] w (Wrote w0.heap.size S b (l ++ txt (arg T n)) w))
    (n : Int) (l : List UInt8) (S : Nat → Prop) (w : World) (t : Tm) (E : arg T n = some t) (hn : n < (N + 1 : Nat)) (hb : Below w0.heap.size w0 w) (hB : BlS w0.heap.size S b l w) (hl : l.length + (enc t).length ≤ 1000000000000) :
    Calls Tryz.prog 52 #[.pointer (some ⟨b, 0, none⟩), .pointer (some ⟨g, 0, none⟩), .int .i64 n] w (Wrote w0.heap.size S b (l ++ enc t) w) := by
  have hok := h0.ok
  have hgood := (hok.fine t (arg_mem E)).1
  have HV := hide (aview_any (h0.below hb) n)
  have HH := hide (fun (A : Option Addr) (c : Nat) (W : World) => cHead_any hgood A c W)
  have HB := hide hB
  have IH := hide ih
  have Eh := hide E
  have Hok := hide hok
  have hSL := hB.sL
  have hSB := hB.sB
  have heta := enc_eta t
  have hlen := congrArg List.length heta
  rw [List.length_append] at hlen
  rw [heta]
  have hwz := hb.size
  clear h0 hB ih E hok heta
  have Hn := hide hn
  clear hn
  go_enter Tryz.func52, Tryz.ntmps52
  go_wp2_with (first
    | (go_at_call 57; refine HV.out.mono ?_; rintro e w1 hv; obtain ⟨js, A, c, ha, rfl, hown, hb1⟩ := view_some Eh.out hv; clear hv; have hz1 := hb1.size)
    | (go_at_call 89; refine (HH.out _ _ _).mono ?_; rintro e w2 ⟨rfl, hb2⟩)
    | fail)
  have hbw : Below w.heap.size w w2 := (hb1.alloc hz1 _).trans (hb2.mono (by simp; omega))
  have hx2 : Blk w2 w1.heap.size 120 #[.int .i64 t.k, .int .i64 t.a, .int .i64 t.b, .string t.s, .slice A t.l.length c] := (Blk.new w1 _ _).below hb2 (by simp)
  have hz2 : w1.heap.size + 1 ≤ w2.heap.size := by have := hb2.size; simpa using this
  have HB2 := hide (HB.out.below hbw)
  have hhl : (head t.k t.a t.b t.s.data.toList t.l.length).length = (bs (head t.k t.a t.b t.s.data.toList t.l.length)).size := rfl
  refine (bwriteS _ HB2.out (by omega) (by omega)).mono ?_
  rintro e w3 ⟨rfl, S3, hB3, hG3⟩
  have hN1 : ∀ i, w.heap.size ≤ i → i < w2.heap.size → ¬ S3 i := by
    intro i h1 h2 h3
    rcases hG3.new i h3 with h4 | h4
    · have := hSL i h4
      omega
    · omega
  have hx3 := hG3.outs_.blk hx2 (fun h => by have := hSL _ h; omega)
  have c4 : w3.cell? ⟨w1.heap.size, 4, none⟩ = some (.slice A t.l.length c) := hx3.cell 4
  have hGo : Outs S w1 w3 := (Outs.of_below ((Below.refl _ w1).alloc (Nat.le_refl _) _)).trans ((Outs.of_below hb2).trans hG3.outs_)
  have HR := hide (row_cells (ns := js.map Int.ofNat) (w' := w3) (by simpa using hown) hGo (fun i h1 h2 h3 => by have := hSL i h3; omega))
  have hG03 : Grown S w S3 w3 := (Grown.of_below hbw).trans hG3
  have HB3 := hide hB3
  have HG03 := hide hG03
  have Ha := hide ha
  have hz3 := hG3.size
  clear hown hx2 hx3 hGo hb1 hb2 HB2 HH HV HB hG3 hG03 hB3 hbw ha
  have hbl : ((bs (head t.k t.a t.b t.s.data.toList t.l.length)).data.toList) = head t.k t.a t.b t.s.data.toList t.l.length := rfl
  rw [hbl] at HB3
  clear hbl
  generalize hH : head t.k t.a t.b t.s.data.toList t.l.length = H at HB3 hlen hhl ⊢
  have htl : t.l.length ≤ 1000000000000 := by
    have : t.l.length ≤ (encs t.l).length := encs_len t.l
    omega
  have HHq := hide hH
  clear hhl hH
  go_wp2_with fail
  go_loopw [25] (fun vi wr => ∃ (i : Nat) (Sr : Nat → Prop), vi = .int .i64 i ∧ i ≤ t.l.length ∧ Hid (BlS w0.heap.size Sr b (l ++ H ++ encs (t.l.take i)) wr) ∧ Hid (Grown S3 w3 Sr wr)) (fun vi _ => t.l.length - (intOf vi).toNat)
  case atStart => exact ⟨0, S3, rfl, Nat.zero_le _, hide (by simpa [encs] using HB3.out), hide (Grown.refl _ _)⟩
  case round =>
    obtain ⟨i, Sr, rfl, hi, hBr, hGr⟩ := hrel
    by_cases hlt : i < t.l.length
    · have hii : (i : Int) < t.l.length := by omega
      have hjl := Ha.out.len
      obtain ⟨c1, hc1, hTc⟩ := Ha.out.at_ (p := i) (by omega)
      obtain ⟨ad, rfl, ha1, ha2, hcell0⟩ := HR.out i (js[i]'(by omega) : Nat) (by rw [List.getElem?_map, List.getElem?_eq_getElem (by omega)]; rfl)
      have hcell := hGr.out.outs_.cell hcell0 (by rw [block_of_add]; exact hN1 _ ha1 (by omega))
      obtain ⟨p, rfl, hp⟩ := arg_some Eh.out
      have hc2 : t.l[i] = c1 := by
        rw [List.getElem?_eq_getElem hlt] at hc1
        exact Option.some.inj hc1
      obtain ⟨j, hjp, hTj⟩ := Hok.out.sub p t hp c1 (by rw [← hc2]; exact List.getElem_mem hlt)
      have hji : js[i]'(by omega) = j := get_inj Hok.out hTc hTj
      rw [hji] at hcell
      have harg : arg T (j : Int) = some t.l[i] := by rw [arg_at, hTj, hc2]
      have htake := encs_take hlt
      have htl2 := encs_take_len t.l (i + 1)
      rw [htake, List.length_append] at htl2
      have hI := hide (IH.out (j : Int) (l ++ H ++ encs (t.l.take i)) Sr wr (by have := Hn.out; omega) (hb.trans ((HG03.out.trans hGr.out).below hwz hSB)) hBr.out (by rw [harg]; simp only [txt, List.length_append]; omega))
      rw [harg] at hI
      have Ht := hide htake
      clear hjl hc1 hTc hcell0 hp hc2 hTj hji harg htake htl2 hlen hl
      go_wp2_with (go_at_call 52; refine hI.out.mono ?_; rintro e w4 ⟨rfl, S4, hB4, hG4⟩)
      refine ⟨⟨i + 1, S4, by go_num, by omega, hide ?_, hide (hGr.out.trans hG4)⟩, by simp [intOf]; omega⟩
      rw [Ht.out]
      simpa [txt] using hB4
    · obtain rfl : i = t.l.length := by omega
      rw [List.take_length] at hBr
      have hii : ¬ (t.l.length : Int) < t.l.length := by omega
      go_wp2
      refine bodyPost_ret (results_none rfl _ _ _) rfl ?_
      exact ⟨rfl, Sr, by rw [HHq.out]; simpa using hBr.out, HG03.out.trans hGr.out⟩
theorem cput_any (h0 : Ar B0 w0 g T SA) (b : Nat) : ∀ (N : Nat) (n : Int) (l : List UInt8) (S : Nat → Prop) (w : World), n < N → Below w0.heap.size w0 w → BlS w0.heap.size S b l w → l.length + (txt (arg T n)).length ≤ 1000000000000 →
    Calls Tryz.prog 52 #[.pointer (some ⟨b, 0, none⟩), .pointer (some ⟨g, 0, none⟩), .int .i64 n] w (Wrote w0.heap.size S b (l ++ txt (arg T n)) w) := by
  intro N
  induction N with
  | zero => exact fun n l S w hn hb hB hl => cput_none h0 b n l S w (arg_neg (by omega)) hb hB
  | succ N ih =>
    intro n l S w hn hb hB hl
    cases E : arg T n with
    | none =>
      have := cput_none h0 b n l S w E hb hB
      rwa [E] at this
    | some t =>
      rw [E] at hl
      exact cput_some h0 b N ih n l S w t E hn hb hB hl
end
section
variable {B g : Nat} {w : World} {T : List Tm} {S : Nat → Prop}
set_option maxHeartbeats 1000000 in
/-- Encode are the term's bytes. -/
theorem encode_any (h : Ar B w g T S) (n : Int) : Calls Tryz.prog 15 #[.pointer (some ⟨g, 0, none⟩), .int .i64 n] w (Says (txt (arg T n)) w) := by
  have hlen := tx_len (arg_fine h.ok n)
  have HP := hide (fun (W : World) (hb : Below w.heap.size w W) (hB : BlS w.heap.size (fun i => i = w.heap.size) w.heap.size [] W) => cput_any h w.heap.size (n.toNat + 1) n [] _ W (by omega) hb hB (by simp; omega))
  have HN := hide (bls_new w)
  clear h hlen
  go_enter Tryz.func15, Tryz.ntmps15
  go_wp2_with (first
    | (go_at_call 52; refine (HP.out _ (by (repeat (first | exact Below.refl _ _ | refine below_drewN ?_ _ | refine Below.drew ?_ | refine Below.alloc ?_ (by first | omega | (simp; done) | (simp; omega)) _ | refine Below.setCell ?_ (by first | omega | (simp; done) | (simp; omega)) _ | refine bel_alloc ?_ _ | refine bel_trans ?_ (by assumption) | refine Below.trans ?_ (Below.mono (by assumption) (by first | omega | (simp; done) | (simp; omega)))))) HN.out).mono ?_; rintro e w1 ⟨rfl, S1, hB1, hG1⟩; have hz1 := hG1.size; have hb1 := hG1.below (B := w.heap.size) (by simp) (fun i hi => by omega))
    | (go_at_call 53; refine (bld_string hB1.bld (by simp at hz1; omega)).mono ?_; rintro e w2 ⟨rfl, hb2⟩))
  go_ret
  exact ⟨rfl, ((Below.refl _ w).alloc (Nat.le_refl _) _).trans (hb1.trans hb2)⟩
theorem ahas_nil (n : Int) (w : World) : Calls Tryz.prog 104 #[.pointer none, .int .i64 n] w fun e w' => e = .returned (.bool false) ∧ w = w' := by
  by_cases h0 : 0 ≤ n
  · have h1 : ¬ n < 0 := by omega
    go_enter Tryz.func104, Tryz.ntmps104
    go_wp2_with (go_at_call 127; refine (alen_nil _).mono ?_; rintro e w1 ⟨rfl, rfl⟩)
    go_ret
    exact ⟨ret_bool (by first | (simp; done) | (simp; omega)), rfl⟩
  · go_enter Tryz.func104, Tryz.ntmps104
    go_wp2
    go_ret
    exact ⟨ret_bool (by first | (simp; done) | (simp; omega)), rfl⟩
theorem aview_nil (n : Int) (w : World) : Calls Tryz.prog 57 #[.pointer none, .int .i64 n] w fun e w' => e = .returned (.tuple #[.agg #[.int .i64 0, .int .i64 0, .int .i64 0, .string ⟨#[]⟩, .slice none 0 0], .bool false]) ∧ Below w.heap.size w w' := by
  go_enter Tryz.func57, Tryz.ntmps57
  go_wp2_with (go_at_call 104; refine (ahas_nil n _).mono ?_; rintro e w1 ⟨rfl, rfl⟩)
  exact bodyPost_ret (v := .tuple #[.agg #[.int .i64 0, .int .i64 0, .int .i64 0, .string ⟨#[]⟩, .slice none 0 0], .bool false]) (by simp [results, Tryz.results57, go_sem]) rfl ⟨rfl, by (repeat (first | exact Below.refl _ _ | refine below_drewN ?_ _ | refine Below.drew ?_ | refine Below.alloc ?_ (by first | omega | (simp; done) | (simp; omega)) _ | refine Below.setCell ?_ (by first | omega | (simp; done) | (simp; omega)) _ | refine bel_alloc ?_ _ | refine bel_trans ?_ (by assumption) | refine Below.trans ?_ (Below.mono (by assumption) (by first | omega | (simp; done) | (simp; omega)))))⟩
set_option maxHeartbeats 1000000 in
set_option maxRecDepth 100000 in
theorem cput_nil (b : Nat) (n : Int) (w : World) : Calls Tryz.prog 52 #[.pointer (some ⟨b, 0, none⟩), .pointer none, .int .i64 n] w fun e w' => e = .returned (.tuple #[]) ∧ Below w.heap.size w w' := by
  go_enter Tryz.func52, Tryz.ntmps52
  go_wp2_with (go_at_call 57; refine (aview_nil n _).mono ?_; rintro e w1 ⟨rfl, hb1⟩)
  refine bodyPost_ret (results_none rfl _ _ _) rfl ?_
  exact ⟨rfl, hb1.alloc hb1.size _⟩
set_option maxHeartbeats 1000000 in
theorem encode_nil (n : Int) (w : World) : Calls Tryz.prog 15 #[.pointer none, .int .i64 n] w (Says [] w) := by
  have HN := hide (bld_new w)
  go_enter Tryz.func15, Tryz.ntmps15
  go_wp2_with (first
    | (go_at_call 52; refine (cput_nil _ n _).mono ?_; rintro e w1 ⟨rfl, hb1⟩; have hz1 := hb1.size)
    | (go_at_call 53; refine (bld_string (bld_below HN.out hb1) (by simp at hz1; omega)).mono ?_; rintro e w2 ⟨rfl, hb2⟩))
  go_ret
  exact ⟨rfl, ((Below.refl _ w).alloc (Nat.le_refl _) _).trans ((hb1.mono (by simp)).trans hb2)⟩
end
end Go.Proofs.YtkpikfdfekggbaaGreatDoor
