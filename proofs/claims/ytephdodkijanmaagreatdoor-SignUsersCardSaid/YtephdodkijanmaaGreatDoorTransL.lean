/-
  The contracts of trans's List and Hash. Conditions: texts of at most 300,000 bytes.
-/
import Derived.Test.YtephdodkijanmaaGreatDoorTrans
set_option linter.unusedVariables false
set_option linter.unusedSimpArgs false
namespace Go.Proofs.YtephdodkijanmaaGreatDoor
open Go.RowKit Go.ChangeShapes Go.WideShapes Go.Sort

theorem Idns.app {T : List Tm} {ms ms' : List (Option Tm)} {ns ns' : List Int} (h : Idns T ms ns) (h' : Idns T ms' ns') : Idns T (ms ++ ms') (ns ++ ns') := by
  refine ⟨by simp [h.1, h'.1], fun i o n h1 h2 => ?_⟩
  rcases Nat.lt_or_ge i ms.length with hlt | hge
  · rw [List.getElem?_append_left hlt] at h1
    rw [List.getElem?_append_left (by rw [h.1]; exact hlt)] at h2
    exact h.2 i o n h1 h2
  · rw [List.getElem?_append_right hge] at h1
    rw [List.getElem?_append_right (by rw [h.1]; exact hge), h.1] at h2
    exact h'.2 _ o n h1 h2
theorem idns_one {T : List Tm} {o : Option Tm} {n : Int} (h : Idn T o n) : Idns T [o] [n] := (idns_nil T).snoc h
theorem idns_three {T : List Tm} {o p q : Option Tm} {n m k : Int} (h : Idn T o n) (h' : Idn T p m) (h'' : Idn T q k) : Idns T [o, p, q] [n, m, k] := (((idns_nil T).snoc h).snoc h').snoc h''
/-- A list of terms that grows: behind an append. -/
theorem ido_app {B g : Nat} {w wx w' : World} {T1 : List Tm} {S S1 : Nat → Prop} {os1 os2 : List (Option Tm)} {ns ms : List Int} {v v' : Value} {k : Nat}
    (ho : wx.ownsRow w.heap.size 36 1 v os1.length (ns.map (Value.int .i64))) (hi1 : Idns T1 os1 ns) (hout : ∀ i, v.ownBlock = some i → ¬ S1 i) (hi2 : Idns T1 os2 ms) (hk : Kp B w g T1 S S1 wx)
    (hown : w'.ownsRow w.heap.size 36 1 v' k (ns.map (Value.int .i64) ++ ms.map (Value.int .i64))) (hkk : k = os1.length + os2.length) (hgr : wx.grownBy w' v.ownBlock) (hor : v'.ownBlock = v.ownBlock ∨ v'.ownBlock = some wx.heap.size) :
    IdO w.heap.size w' T1 (os1 ++ os2) v' S1 ∧ Kp B w g T1 S S1 w' := by
  subst hkk
  refine ⟨⟨⟨ns ++ ms, by simpa using hown, hi1.app hi2⟩, at_new hor hout hk.ar.sL⟩, hk.step hgr fun b e => ⟨(ho.lt b e).1, hout b e⟩⟩
/-- What List and Hash answer: a term, some terms more. -/
def DoneL (B : Nat) (w : World) (g : Nat) (T : List Tm) (S : Nat → Prop) (o : Option Tm) (m : Nat) (e : Ending) (w' : World) : Prop :=
  ∃ T' n S', e = .returned (.int .i64 n) ∧ Idn T' o n ∧ T <+: T' ∧ T'.length ≤ T.length + m ∧ Ar B w' g T' S' ∧ Grown S w S' w'
/-- A list of terms that is being made. -/
def LstI (B : Nat) (w : World) (g : Nat) (T : List Tm) (S : Nat → Prop) (os : List (Option Tm)) (m : Nat) (v : Value) (wx : World) : Prop :=
  ∃ T' S' A c, v = .slice A os.length c ∧ IdO w.heap.size wx T' os v S' ∧ T <+: T' ∧ T'.length ≤ T.length + m ∧ Kp B w g T' S S' wx
section
variable {B g : Nat} {w : World} {T : List Tm} {S : Nat → Prop}
theorem Kp.below_ {S0 : Nat → Prop} {wx W : World} (h : Kp B w g T S0 S wx) (hb : Below wx.heap.size wx W) : Kp B w g T S0 S W := ⟨h.ar.below hb, h.grown.trans (Grown.of_below hb)⟩
theorem lst_app {x6 wx w7 : World} {T9 : List Tm} {S9 : Nat → Prop} {os os2 : List (Option Tm)} {ns ms : List Int} {A9 A7 : Option Addr} {n9 c9 c7 k m : Nat}
    (h9 : IdO w.heap.size x6 T9 os (.slice A9 n9 c9) S9 ∧ T <+: T9 ∧ T9.length ≤ T.length + m ∧ Ar B x6 g T9 S9 ∧ Grown S w S9 x6) (hb : Below x6.heap.size x6 wx)
    (ho : wx.ownsRow w.heap.size 36 1 (.slice A9 n9 c9) os.length (ns.map (Value.int .i64))) (hid : Idns T9 os ns) (hi2 : Idns T9 os2 ms)
    (hown : w7.ownsRow w.heap.size 36 1 (.slice A7 k c7) k (ns.map (Value.int .i64) ++ ms.map (Value.int .i64))) (hkk : k = os.length + os2.length) (hgr : wx.grownBy w7 (Value.slice A9 n9 c9).ownBlock) (hor : (Value.slice A7 k c7).ownBlock = (Value.slice A9 n9 c9).ownBlock ∨ (Value.slice A7 k c7).ownBlock = some wx.heap.size) :
    LstI B w g T S (os ++ os2) m (.slice A7 k c7) w7 := by
  obtain ⟨h1, h2, h3, h4, h5⟩ := h9
  have hk : Kp B w g T9 S S9 wx := Kp.below_ ⟨h4, h5⟩ hb
  obtain ⟨h6, h7⟩ := ido_app ho hid h1.out hi2 hk hown hkk hgr hor
  exact ⟨T9, S9, A7, c7, by rw [List.length_append, hkk], h6, h2, h3, h7⟩
theorem blk_at {W W' : World} {b : Nat} {t : TypeId} {cs : Array Value} (hb : b = W.heap.size) (h : Below (W.heap.size + 1) (W.alloc (.cells cs t)) W') : Blk W' b t cs := by
  subst hb
  exact (Blk.new W t cs).below h (Nat.lt_succ_self _)
/-- A key's number, in a block of its own. -/
theorem ones_reads {wx : World} {b : Nat} {t : TypeId} {n : Int} (h : Blk wx b t #[.int .i64 n]) : Reads wx wx.heap.size 1 (some ⟨b, 0, none⟩) 1 [.int .i64 n] := reads_blk h rfl
theorem DataP.open2 {os : List (Option Tm)} {e : Ending} {w' : World} (h : DataP B w g T S os e w') : ∃ T' S' A c n ns, n = os.length ∧ e = .returned (.slice A n c) ∧ w'.ownsRow w.heap.size 36 1 (.slice A n c) n (ns.map (Value.int .i64)) ∧ Idns T' os ns ∧ T <+: T' ∧ T'.length ≤ T.length + os.length ∧ Ar B w' g T' S' ∧ Grown S w S' w' := by
  obtain ⟨T', S', A, c, h1, h2, h3, h4, h5, h6⟩ := h.open_
  obtain ⟨ns, h7, h8⟩ := h2.ids
  exact ⟨T', S', A, c, _, ns, rfl, h1, h7, h8, h3, h4, h5, h6⟩
theorem askO_len (p : PartsP) : (askO p).length ≤ 5 := by
  unfold askO
  split <;> simp
theorem cells14 {w : World} {b : Nat} {t : TypeId} {v0 v1 v2 v3 v4 v5 v6 v7 v8 v9 v10 v11 v12 v13 : Value} (h : Blk w b t #[v0, v1, v2, v3, v4, v5, v6, v7, v8, v9, v10, v11, v12, v13]) : w.cell? ⟨b, 0, none⟩ = some v0 ∧ w.cell? ⟨b, 1, none⟩ = some v1 ∧ w.cell? ⟨b, 2, none⟩ = some v2 ∧ w.cell? ⟨b, 3, none⟩ = some v3 ∧ w.cell? ⟨b, 4, none⟩ = some v4 ∧ w.cell? ⟨b, 5, none⟩ = some v5 ∧ w.cell? ⟨b, 6, none⟩ = some v6 ∧ w.cell? ⟨b, 7, none⟩ = some v7 ∧ w.cell? ⟨b, 8, none⟩ = some v8 ∧ w.cell? ⟨b, 9, none⟩ = some v9 ∧ w.cell? ⟨b, 10, none⟩ = some v10 ∧ w.cell? ⟨b, 11, none⟩ = some v11 ∧ w.cell? ⟨b, 12, none⟩ = some v12 ∧ w.cell? ⟨b, 13, none⟩ = some v13 :=
  ⟨h.cell 0, h.cell 1, h.cell 2, h.cell 3, h.cell 4, h.cell 5, h.cell 6, h.cell 7, h.cell 8, h.cell 9, h.cell 10, h.cell 11, h.cell 12, h.cell 13⟩
end
end Go.Proofs.YtephdodkijanmaaGreatDoor
