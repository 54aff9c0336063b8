/-
  Errors within places: fault's At and Of, Path and Code, and law07's Wrong where it agrees. Conditions: up to three places of up to 1,000 bytes; the library's handle is as it was laid.
-/
import Derived.Test.YtjaipdenahlheaaGreatDoorAsN
import Derived.Test.YtjaipdenahlheaaGreatDoorRefA
import Derived.Deep.RegionHeld3
import Derived.Deep.DeepCutAuto
set_option linter.unusedVariables false
set_option linter.unusedSimpArgs false
namespace Go.Proofs.YtjaipdenahlheaaGreatDoor
open Go.RowKit
/-- A fault's value. -/
def errV (b : Nat) : Value := .iface 117 (.pointer (some ⟨b, 0, none⟩))
/-- An error's number within places. -/
def IsErr (w : World) : Value → List (List UInt8) → Int → Prop
  | v, [], k => v = .iface 36 (.int .i64 k)
  | v, s :: r, k => ∃ b v', v = errV b ∧ Blk w b 119 #[.string (bs s), v'] ∧ IsErr w v' r k
theorem IsErr.below {w w' : World} (hb : Below w.heap.size w w') : ∀ {ps : List (List UInt8)} {v : Value} {k : Int}, IsErr w v ps k → IsErr w' v ps k
  | [], _, _, h => h
  | _ :: _, _, _, h => by
    obtain ⟨b, v', e, hB, h2⟩ := h
    exact ⟨b, v', e, hB.below hb hB.lt, IsErr.below hb h2⟩
theorem IsErr.own {w w' : World} {g : Nat} {t : TypeId} {cs : Array Value} (hg : Blk w g t cs) (hne : t ≠ 119) (hb : w.grownBy w' (some g)) : ∀ {ps : List (List UInt8)} {v : Value} {k : Int}, IsErr w v ps k → IsErr w' v ps k
  | [], _, _, h => h
  | _ :: _, _, _, h => by
    obtain ⟨b, v', e, hB, h2⟩ := h
    exact ⟨b, v', e, hB.grown hb (fun e2 => Blk.ne_ hg hB hne (Option.some.inj e2).symm), IsErr.own hg hne hb h2⟩
section
variable {w : World}
theorem fof_any (s : ByteArray) (k : Int) (hk : (k == 0) = false) (w : World) : Calls Tryz.prog 39 #[.string s, .int .i64 k] w (fun e w' => ∃ b, e = .returned (errV b) ∧ IsErr w' (errV b) [s.data.toList] k ∧ Below w.heap.size w w') := by
  go_enter Tryz.func39, Tryz.ntmps39
  go_wp2
  go_ret
  exact ⟨w.heap.size, rfl, ⟨_, _, rfl, Blk.new _ _ _, rfl⟩, by (repeat (first | exact Below.refl _ _ | refine below_drewN ?_ _ | refine Below.drew ?_ | refine Below.alloc ?_ (by first | omega | (simp; done) | (simp; omega)) _ | refine Below.setCell ?_ (by first | omega | (simp; done) | (simp; omega)) _ | refine bel_alloc ?_ _ | refine bel_trans ?_ (by assumption) | refine Below.trans ?_ (Below.mono (by assumption) (by first | omega | (simp; done) | (simp; omega)))))⟩
theorem fof_nil (s : ByteArray) (w : World) : Calls Tryz.prog 39 #[.string s, .int .i64 0] w (fun e w' => e = .returned .nilIface ∧ w' = w) := by
  go_enter Tryz.func39, Tryz.ntmps39
  go_wp2
  go_ret
  exact ⟨rfl, rfl⟩
theorem fat_any (s : ByteArray) (b : Nat) {ps : List (List UInt8)} {k : Int} (h : IsErr w (errV b) ps k) : Calls Tryz.prog 27 #[.string s, errV b] w (fun e w' => ∃ b', e = .returned (errV b') ∧ IsErr w' (errV b') (s.data.toList :: ps) k ∧ Below w.heap.size w w') := by
  have H := hide (fun w' (hb : Below w.heap.size w w') => h.below hb)
  unfold errV
  clear h
  go_enter Tryz.func27, Tryz.ntmps27
  go_wp2
  go_ret
  exact ⟨w.heap.size, rfl, ⟨_, _, rfl, Blk.new _ _ _, H.out _ (by (repeat (first | exact Below.refl _ _ | refine below_drewN ?_ _ | refine Below.drew ?_ | refine Below.alloc ?_ (by first | omega | (simp; done) | (simp; omega)) _ | refine Below.setCell ?_ (by first | omega | (simp; done) | (simp; omega)) _ | refine bel_alloc ?_ _ | refine bel_trans ?_ (by assumption) | refine Below.trans ?_ (Below.mono (by assumption) (by first | omega | (simp; done) | (simp; omega))))))⟩, by (repeat (first | exact Below.refl _ _ | refine below_drewN ?_ _ | refine Below.drew ?_ | refine Below.alloc ?_ (by first | omega | (simp; done) | (simp; omega)) _ | refine Below.setCell ?_ (by first | omega | (simp; done) | (simp; omega)) _ | refine bel_alloc ?_ _ | refine bel_trans ?_ (by assumption) | refine Below.trans ?_ (Below.mono (by assumption) (by first | omega | (simp; done) | (simp; omega)))))⟩
theorem fat_nil (s : ByteArray) (w : World) : Calls Tryz.prog 27 #[.string s, .nilIface] w (fun e w' => e = .returned .nilIface ∧ w' = w) := by
  go_enter Tryz.func27, Tryz.ntmps27
  go_wp2
  go_ret
  exact ⟨rfl, rfl⟩
theorem asE_any (b : Nat) {ps : List (List UInt8)} {k : Int} (hps : ps.length ≤ 3) (h : IsErr w (errV b) ps k) (t : Addr) (old : Value) (hg : Hand w) (ht0 : w.cell? t = some old) (hf0 : w.frozen? t = false) :
    Calls Tryz.prog 85 #[errV b, .iface 127 (.pointer (some t))] w fun ev w' => ev = .returned (.bool true) ∧ ∃ W, Below w.heap.size w W ∧ w' = W.setCell t (.int .i64 k) := by
  match ps, hps, h with
  | [], _, h => cases h
  | [s1], _, ⟨b1, v1, e1, q1, h1⟩ =>
    cases e1
    cases h1
    exact asE_one b k t old hg ht0 hf0 (q1.cell 1)
  | [s1, s2], _, ⟨b1, v1, e1, q1, b2, v2, e2, q2, h1⟩ =>
    cases e1
    cases e2
    cases h1
    exact asE_two b b2 (bs s1) (bs s2) k t old hg ht0 hf0 (q1.cell 1) (q2.cell 1)
  | [s1, s2, s3], _, ⟨b1, v1, e1, q1, b2, v2, e2, q2, b3, v3, e3, q3, h1⟩ =>
    cases e1
    cases e2
    cases e3
    cases h1
    exact asE_three b b2 b3 k t old hg ht0 hf0 (q1.cell 1) (q2.cell 1) (q3.cell 1)
  | _ :: _ :: _ :: _ :: _, hps, _ => simp at hps
set_option maxHeartbeats 4000000 in
theorem code_any (b : Nat) {ps : List (List UInt8)} {k : Int} (hps : ps.length ≤ 3) (h : IsErr w (errV b) ps k) (hg : Hand w) : Calls Tryz.prog 36 #[errV b] w (fun e w' => e = .returned (.int .i64 k) ∧ Below w.heap.size w w') := by
  have hb0 := (Below.refl w.heap.size w).alloc (Nat.le_refl _) (.cells #[.int .i64 0] 36)
  have hB := Blk.new w 36 #[.int .i64 0]
  have HA := hide (asE_any b hps (h.below hb0) ⟨w.heap.size, 0, none⟩ (.int .i64 0) (hg.below hb0) (hB.cell 0) (hB.frozen 0))
  clear hg h
  unfold errV at HA ⊢
  go_enter Tryz.func36, Tryz.ntmps36
  go_wp2_with fail
  refine HA.out.mono ?_
  rintro e w1 ⟨rfl, W, hbW, rfl⟩
  have hc : (W.setCell ⟨w.heap.size, 0, none⟩ (.int .i64 k)).cell? ⟨w.heap.size, 0, none⟩ = some (.int .i64 k) := by
    have := (hB.below hbW hB.lt).set_ 0 (.int .i64 k)
    simpa using this.cell 0
  have hbl : Below w.heap.size w (W.setCell ⟨w.heap.size, 0, none⟩ (.int .i64 k)) := (hb0.trans (hbW.mono hb0.size)).setCell (Nat.le_refl _) _
  clear hB hb0 hbW
  go_wp2_with fail
  go_ret
  exact ⟨rfl, hbl⟩
theorem own_belowN {B0 size n : Nat} {t : TypeId} {v : Value} {xs : List Value} {w w' : World} (h : w.ownsRow B0 t size v n xs) (hb : Below w.heap.size w w') : w'.ownsRow B0 t size v n xs := by
  refine h.kept (only_of_below hb none) ?_
  cases eo : v.ownBlock with
  | none => exact .inl rfl
  | some i => exact .inr (fun e => by cases e)
theorem own_slN {w : World} {base : Nat} {e : TypeId} {size n : Nat} {v : Value} {xs : List Value} (h : w.ownsRow base e size v n xs) : ∃ A c, v = .slice A n c := by
  rcases h.2 with ⟨rfl, rfl⟩ | ⟨g', cap, cur, rfl, _⟩
  · exact ⟨none, 0, rfl⟩
  · exact ⟨_, _, rfl⟩
theorem reads_blkN {W : World} {b : Nat} {t : TypeId} {us : List Value} {size m : Nat} (h : Blk W b t us.toArray) (hl : us.length = m * size) : Reads W W.heap.size size (some ⟨b, 0, none⟩) m us :=
  ⟨hl, fun _ => ⟨_, rfl, h.lt, fun j u hu => by rw [add_zero_, h.cell j]; simpa using hu⟩⟩
theorem info_partsN {o : Option TypeInfo} {z : Option Value} {n b : Nat} (h : o.map (fun i => (i.zero, i.size, i.bytes)) = some (z, n, b)) : ∃ i, o = some i ∧ i.zero = z ∧ i.size = n ∧ i.bytes = b := by
  cases o with
  | none => cases h
  | some i =>
    simp only [Option.map_some, Option.some.injEq, Prod.mk.injEq] at h
    exact ⟨i, rfl, h.1, h.2.1, h.2.2⟩
theorem own_txsN {w : World} {B i : Nat} {e : TypeId} {v : Value} {ls : List (List UInt8)} (h : w.ownsRow B e 1 v i ((ls.map bs).map Value.string)) (hi : (ls.map bs).length = i) : Txs w v ls := by
  obtain ⟨A, c, rfl⟩ := own_slN h
  refine ⟨A, c, by rw [hi], ?_⟩
  rw [hi]
  exact Sl.of_reads (Reads.of_own h)
theorem infoStN : (Tryz.prog.info? 9).map (fun i => (i.zero, i.size, i.bytes)) = some (some (.string ⟨#[]⟩), 1, 16) := by kernel_rfl
def lenV : Value → Nat
  | .slice _ n _ => n
  | _ => 0
/-- A path that is being gathered. -/
structure PathI (w : World) (ps : List (List UInt8)) (k : Int) (tb : Nat) (i : Nat) (A : Option Addr) (c : Nat) (vi : Value) (wr : World) : Prop where
  err : IsErr w vi (ps.drop i) k
  own : wr.ownsRow w.heap.size 9 1 (.slice A i c) i (((ps.take i).map bs).map Value.string)
  blk : ∃ p, Blk wr tb 117 #[.pointer p]
  bel : Below w.heap.size w wr
set_option maxHeartbeats 8000000 in
set_option maxRecDepth 100000 in
theorem path_any (b : Nat) {ps : List (List UInt8)} {k : Int} (hps : ps.length ≤ 1000) (h : IsErr w (errV b) ps k) (hg : Hand w) : Calls Tryz.prog 35 #[errV b] w (fun e w' => ∃ A c, e = .returned (.slice A ps.length c) ∧ Txs w' (.slice A ps.length c) ps ∧ Below w.heap.size w w') := by
  have hb0 := (Below.refl w.heap.size w).alloc (Nat.le_refl _) (.cells #[.pointer none] 117)
  have hB := Blk.new w 117 #[.pointer none]
  obtain ⟨w0, hw0⟩ : ∃ w0, w0 = w.alloc (.cells #[.pointer none] 117) := ⟨_, rfl⟩
  rw [← hw0] at hb0 hB
  obtain ⟨tb, htb⟩ : ∃ tb, tb = w.heap.size := ⟨_, rfl⟩
  rw [← htb] at hB
  obtain ⟨iI, hiI, hI0, hI1, hI2⟩ := info_partsN infoStN
  have HP0 := hide (show PathI w ps k tb 0 none 0 (errV b) w0 from ⟨h, World.ownsRow_nil _ _ _ _, ⟨none, hB⟩, hb0⟩)
  have Hg := hide hg
  unfold errV at HP0 ⊢
  clear h hg hB hb0
  go_enter Tryz.func35, Tryz.ntmps35
  go_upto_region 3 with fail
  rw [← hw0, ← htb]
  have Htb := hide htb
  clear hw0 htb
  go_loopw [0, 3] (fun ve vo wr => ∃ (i : Nat) (A : Option Addr) (c : Nat), vo = .slice A i c ∧ i ≤ ps.length ∧ Hid (PathI w ps k tb i A c ve wr)) (fun _ vo _ => ps.length - lenV vo)
  case atStart => exact ⟨0, none, 0, rfl, Nat.zero_le _, HP0⟩
  case round =>
    obtain ⟨i, A, c, rfl, hi, HI⟩ := hrel
    have herr := HI.out.err
    obtain ⟨p0, hBl⟩ := HI.out.blk
    have hbr := HI.out.bel
    have hown := HI.out.own
    by_cases hlt : i < ps.length
    · rw [List.drop_eq_getElem_cons hlt] at herr
      obtain ⟨b1, v', rfl, q1, herr2⟩ := herr
      have htk := hide (show ((ps.take (i + 1)).map bs).map Value.string = ((ps.take i).map bs).map Value.string ++ [.string (bs ps[i])] from by
        rw [List.take_succ_eq_append_getElem hlt, List.map_append, List.map_append]
        rfl)
      have Herr2 := hide herr2
      have H1 := hide (asF_hit (w := wr) ⟨b1, 0, none⟩ ⟨tb, 0, none⟩ (.pointer p0) (Hg.out.below hbr) (hBl.cell 0) (hBl.frozen 0))
      have HO := hide hown
      have HQ := hide q1
      have HB := hide hBl
      have Hbr := hide hbr
      have hi0 : i ≤ 1000 := by omega
      unfold errV at H1 ⊢
      clear herr2 hown q1 hBl hbr HI
      go_wp2_with fail
      refine H1.out.mono ?_
      rintro e w1 ⟨rfl, W1, hbW1, rfl⟩
      have hbX1 : Below w.heap.size w (W1.setCell ⟨tb, 0, none⟩ (.pointer (some ⟨b1, 0, none⟩))) := (Hbr.out.trans (hbW1.mono Hbr.out.size)).setCell (by rw [Htb.out]; exact Nat.le_refl _) _
      have hBX1 : Blk (W1.setCell ⟨tb, 0, none⟩ (.pointer (some ⟨b1, 0, none⟩))) tb 117 #[.pointer (some ⟨b1, 0, none⟩)] := by
        have := (HB.out.below hbW1 HB.out.lt).set_ 0 (.pointer (some ⟨b1, 0, none⟩))
        simpa using this
      have hoX1 : (W1.setCell ⟨tb, 0, none⟩ (.pointer (some ⟨b1, 0, none⟩))).ownsRow w.heap.size 9 1 (.slice A i c) i (((ps.take i).map bs).map Value.string) := by
        have h1 : wr.grownBy (W1.setCell ⟨tb, 0, none⟩ (.pointer (some ⟨b1, 0, none⟩))) (some tb) := only_setCell (only_of_below hbW1 (some tb)) (.inl rfl) _
        refine HO.out.kept h1 ?_
        cases eo : (Value.slice A i c).ownBlock with
        | none => exact .inl rfl
        | some j => exact .inr (fun e => by
            have := Option.some.inj e
            subst this
            exact own_blk_ne HO.out HB.out (by decide) eo)
      generalize W1.setCell ⟨tb, 0, none⟩ (.pointer (some ⟨b1, 0, none⟩)) = X1 at hbX1 hBX1 hoX1 ⊢
      have c1 : X1.cell? ⟨tb, 0, none⟩ = some (.pointer (some ⟨b1, 0, none⟩)) := hBX1.cell 0
      have c2 : X1.cell? ⟨b1, 0, none⟩ = some (.string (bs ps[i])) := (HQ.out.below hbX1 HQ.out.lt).cell 0
      have hsz1 : w.heap.size ≤ (X1.alloc (.cells #[.string (bs ps[i])] 9)).heap.size := by
        have := hbX1.size
        simp only [World.size_alloc]
        omega
      clear hbW1 H1 HO
      go_wp2_with (first
        | (at_builtin; refine wpList_append_any _ rfl (.tmp 16) (.tmp 21) _ rfl w.heap.size 9 iI (.string ⟨#[]⟩) 1 16 Tryz.underlying22 hiI hI0 hI1 hI2 rfl (by decide) (.slice A i c) i _ rfl (hoX1.alloc _) _ (some ⟨_, 0, none⟩) 1 1 [.string (bs ps[i])] rfl (reads_blkN (Blk.new _ _ _) rfl) (by simp [Value.oneCell']) (by unfold maxLen; omega) (by omega) (by simp only [World.size_alloc]; have := hbX1.size; omega) ?_; intro v6 w6 hown6 hgr6 hor6; obtain ⟨A6, c6, rfl⟩ := own_slN hown6;
           have hbY := (hbX1.alloc hbX1.size (.cells #[.string (bs ps[i])] 9)).grown hgr6 hsz1 (fun k e => (hoX1.lt k e).1);
           have hBY := Blk.grown (hBX1.alloc (.cells #[.string (bs ps[i])] 9)) hgr6 (fun e => own_blk_ne hoX1 hBX1 (by decide) e.symm);
           have d1 := hBY.cell 0; have d2 := (HQ.out.below hbY HQ.out.lt).cell 1; simp only [List.getElem?_toArray, List.getElem?_cons_zero, List.getElem?_cons_succ] at d1 d2)
        | fail)
      refine ⟨⟨i + 1, A6, c6, by first | rfl | (simp; done), by omega, hide ⟨Herr2.out, ?_, ⟨_, hBY⟩, hbY⟩⟩, by simp [lenV]; omega⟩
      rw [htk.out]
      exact hown6
    · have hil : i = ps.length := by omega
      subst hil
      rw [List.drop_length] at herr
      cases herr
      have H3 := hide (asF_miss (w := wr) k ⟨tb, 0, none⟩ (.pointer p0) (Hg.out.below hbr) (hBl.cell 0))
      have HO := hide hown
      have Hbr := hide hbr
      clear hBl hbr hown HI
      go_wp2_with fail
      refine H3.out.mono ?_
      rintro e w8 ⟨rfl, hb8⟩
      have ho8 := own_belowN HO.out hb8
      rw [List.take_length] at ho8
      go_wp2_with fail
      go_ret
      exact ⟨A, c, rfl, own_txsN ho8 (by rw [List.length_map]), Hbr.out.trans (hb8.mono Hbr.out.size)⟩
end
end Go.Proofs.YtjaipdenahlheaaGreatDoor
