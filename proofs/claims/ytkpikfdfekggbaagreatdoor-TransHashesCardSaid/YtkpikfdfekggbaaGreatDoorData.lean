/-
  The contract of trans's and sign's data: texts as terms, one behind the other. Conditions: texts of at most a million bytes.
-/
import Derived.Test.YtkpikfdfekggbaaGreatDoorMakes
namespace Go.Proofs.YtkpikfdfekggbaaGreatDoor
open Go.RowKit Go.ChangeShapes Go.WideShapes Go.Sort

/-- Numbers of terms, in a row of the call's own that no arena has. -/
structure IdO (B0 : Nat) (w : World) (T : List Tm) (ms : List (Option Tm)) (v : Value) (S : Nat → Prop) : Prop where
  ids : ∃ ns, w.ownsRow B0 34 1 v ms.length (ns.map (Value.int .i64)) ∧ Idns T ms ns
  out : ∀ i, v.ownBlock = some i → ¬ S i
section
variable {B0 : Nat} {w w' : World} {T T' : List Tm} {ms : List (Option Tm)} {v : Value} {S S' : Nat → Prop}
theorem ido_nil (B0 : Nat) (w : World) (T : List Tm) (S : Nat → Prop) : IdO B0 w T [] (.slice none 0 0) S :=
  ⟨⟨[], World.ownsRow_nil _ _ _ _, idns_nil _⟩, fun i hi => by simp [Value.ownBlock] at hi⟩
theorem IdO.sl (h : IdO B0 w T ms v S) : ∃ A c, v = .slice A ms.length c := by
  obtain ⟨⟨ns, h1, _⟩, _⟩ := h
  exact own_sl h1
theorem IdO.grown (h : IdO B0 w T ms v S) (hg : Grown S w S' w') (hp : T <+: T') : IdO B0 w' T' ms v S' := by
  obtain ⟨⟨ns, h1, h2⟩, h3⟩ := h
  refine ⟨⟨ns, hg.outs.own h1 h3, h2.pre hp⟩, fun i hi hs => ?_⟩
  rcases hg.new i hs with h6 | h6
  · exact h3 i hi h6
  · have := (h1.lt i hi).2
    omega
theorem IdO.below (h : IdO B0 w T ms v S) (hb : Below w.heap.size w w') : IdO B0 w' T ms v S := h.grown (Grown.of_below hb) (List.prefix_refl _)
theorem IdO.ids_ (h : IdO B0 w T ms v S) : ∃ ns, Ids w v ns ∧ Idns T ms ns := by
  obtain ⟨⟨ns, h1, h2⟩, _⟩ := h
  exact ⟨ns, own_ids h2.1.symm h1, h2⟩
end
/-- What data answers. -/
def DataP (B : Nat) (w : World) (g : Nat) (T : List Tm) (S : Nat → Prop) (os : List (Option Tm)) (e : Ending) (w' : World) : Prop :=
  ∃ T' S' v, e = .returned v ∧ IdO w.heap.size w' T' os v S' ∧ T <+: T' ∧ T'.length ≤ T.length + os.length ∧ Ar B w' g T' S' ∧ Grown S w S' w'
structure DatI (B : Nat) (w : World) (g : Nat) (T : List Tm) (S : Nat → Prop) (os : List (Option Tm)) (i : Nat) (wr : World) (T' : List Tm) (S' : Nat → Prop) (v : Value) : Prop where
  ar : Ar B wr g T' S'
  grown : Grown S w S' wr
  pre : T <+: T'
  few : T'.length ≤ T.length + i
  ids : IdO w.heap.size wr T' (os.take i) v S'
section
variable {B g : Nat} {w : World} {T : List Tm} {S : Nat → Prop}
set_option maxHeartbeats 2000000 in
set_option maxRecDepth 100000 in
theorem data_any (h : Use B w g T S) {A : Option Addr} {c lo : Nat} {ss : List ByteArray} (hs : Sl lo w 1 A ss.length (ss.map Value.string)) (hlo : ∀ i, S i → i < lo) (hz : ∀ s ∈ ss, s.size ≤ 1000000) (hl : ss.length ≤ 1000) (hT : T.length + ss.length ≤ 1000000000) :
    Calls Tryz.prog 72 #[.pointer (some ⟨g, 0, none⟩), .slice A ss.length c] w (DataP B w g T S (ss.map tData)) := by
  have HU := hide h
  have HL := hide hs
  have Hz := hide hz
  have Hlo := hide hlo
  have HI0 : Hid (DatI B w g T S (ss.map tData) 0 w T S (.slice none 0 0)) := ⟨h.ar, Grown.refl _ _, List.prefix_refl _, Nat.le_refl _, ido_nil _ _ _ _⟩
  clear h hs hz hlo
  go_enter Tryz.func72, Tryz.ntmps72
  go_wp2_with fail
  go_loopw [10, 5] (fun vi v wr => ∃ (i : Nat) (T' : List Tm) (S' : Nat → Prop), vi = .int .i64 i ∧ i ≤ ss.length ∧ DatI B w g T S (ss.map tData) i wr T' S' v) (fun vi _ _ => ss.length - (intOf vi).toNat)
  case atStart => exact ⟨0, T, S, rfl, Nat.zero_le _, HI0.out⟩
  case round =>
    obtain ⟨i, T', S', rfl, hi, hI⟩ := hrel
    have HI := hide hI
    obtain ⟨A1, c1, hv⟩ := hI.ids.sl
    have hml : ((ss.map tData).take i).length = i := by rw [List.length_take, List.length_map]; omega
    rw [hml] at hv
    subst hv
    have hwz := hI.grown.size
    by_cases hlt : i < ss.length
    · have hii : (i : Int) < ss.length := by omega
      obtain ⟨ad, u, rfl, hlb, hab, hu, hc0⟩ := HL.out.at_ (k := i) hlt
      have hcell := hI.grown.outs.cell hc0 (by rw [block_of_add]; intro h9; have := Hlo.out _ h9; omega)
      rw [List.getElem?_map, List.getElem?_eq_getElem hlt] at hu
      simp only [Option.map_some, Option.some.injEq] at hu
      subst hu
      have hsz := Hz.out _ (List.getElem_mem hlt)
      have hUr : Use B wr g T' S' := HU.out.grown hI.grown hI.ar (by have := hI.few; omega)
      have HD := hide (aData_any hUr hsz)
      have hsn : (ss.map tData).take (i + 1) = (ss.map tData).take i ++ [tData ss[i]] := by
        rw [List.take_succ_eq_append_getElem (by rw [List.length_map]; exact hlt), List.getElem_map]
      have Hsn := hide hsn
      obtain ⟨iI, hiI, hI0, hI1, hI2⟩ := info_parts infoIDr
      clear hc0 hsn hUr hI
      generalize ss[i] = s at HD Hsn hcell hsz
      go_wp2_with (first
        | (go_at_call 49; refine HD.out.mono ?_; rintro e wx ⟨T2, n2, S2, rfl, hp, hA2, hG⟩;
           have hX := HI.out.ids.grown hG hp.pre; obtain ⟨ns, ho1, hidn⟩ := hX.ids; rw [hml] at ho1; have hbx := hG.size)
        | (at_builtin; refine wpList_append_any _ rfl (.tmp 14) (.tmp 18) _ rfl w.heap.size 34 iI (.int .i64 0) 1 8 Tryz.underlying28 hiI hI0 hI1 hI2 rfl (by decide) _ _ _ rfl (ho1.alloc _) _ (some ⟨_, 0, none⟩) 1 1 [.int .i64 n2] rfl (reads_blk (Blk.new _ _ _) rfl) (by simp [Value.oneCell']) (by unfold maxLen; omega) (by omega) (by simp; omega) ?_; intro v6 w6 hown6 hgr6 hor6)
        | fail)
      have hIo := HI.out
      have k0 : Kp B w g T2 S S2 wx := ⟨hA2, hIo.grown.trans hG⟩
      have k1 := k0.step (only_alloc (only_refl wx none) (.cells #[.int .i64 n2] 34)) (fun b e => by cases e)
      have k2 := k1.step hgr6 (fun b e => ⟨(ho1.lt b e).1, hX.out b e⟩)
      have hsl : ((ss.map tData).take (i + 1)).length = i + 1 := by rw [Hsn.out, List.length_append, hml]; rfl
      have hidn2 := hidn.snoc hp.idn
      have hSx := hA2.sL
      refine ⟨⟨i + 1, T2, S2, by go_num, by omega, k2.ar, k2.grown, hIo.pre.trans hp.pre, by have := hp.len; have := hIo.few; omega, ⟨ns ++ [n2], ?_, ?_⟩, ?_⟩, by simp [intOf]; omega⟩
      · rw [hsl]; simpa using hown6
      · rw [Hsn.out]; exact hidn2
      · exact at_new hor6 hX.out (fun i hi => by have := hSx i hi; simp; omega)
    · obtain rfl : i = ss.length := by omega
      have hii : ¬ (ss.length : Int) < ss.length := by omega
      have hX := HI.out.ids
      rw [List.take_of_length_le (by simp)] at hX
      go_wp2
      go_ret
      exact ⟨T', S', _, rfl, hX, HI.out.pre, by simpa using HI.out.few, HI.out.ar, HI.out.grown⟩
end
end Go.Proofs.YtkpikfdfekggbaaGreatDoor
