/-
  The plain law of fields and payloads as terms, and back. Conditions: none.
-/
import Derived.Test.YtmgfcjpifkoahaaGreatDoorKMsgG
import Derived.Test.YtmgfcjpifkoahaaGreatDoorKRefA
set_option linter.unusedVariables false
set_option linter.unusedSimpArgs false
namespace Go.Proofs.YtmgfcjpifkoahaaGreatDoor
open Go.RowKit
def opaqueP (s : List UInt8) : Prop := ∃ t, good t ∧ s = enc t ∧ t.k ≠ 1
open Classical in
/-- The term of a field's bytes. -/
noncomputable def ofT (s : List UInt8) : Option Tm := if h : opaqueP s then some h.choose else tData (bs s)
theorem enc_one {t u : Tm} (ht : good t) (hu : good u) (h : enc t = enc u) : t = u :=
 (enc_inj t u [] [] ht hu (by rw [List.append_nil, List.append_nil]; exact h)).1
theorem ofT_op {t : Tm} (ht : good t) (hk : t.k ≠ 1) : ofT (enc t) = some t := by
 have h : opaqueP (enc t) := ⟨t, ht, rfl, hk⟩
 unfold ofT
 rw [dif_pos h]
 exact congrArg some (enc_one ht h.choose_spec.1 h.choose_spec.2.1).symm
theorem ofT_no {s : List UInt8} (h : ¬ opaqueP s) : ofT s = tData (bs s) := by unfold ofT; rw [dif_neg h]
theorem ofT_txt {s : List UInt8} (h : opaqueP s) : txt (ofT s) = s := by
 obtain ⟨t, ht, rfl, hk⟩ := h
 rw [ofT_op ht hk]
 rfl
theorem encD (s : ByteArray) : enc (.mk 1 0 0 s []) = UInt8.ofNat 241 :: (q4 s.size ++ s.data.toList) := by
 simp [enc, head, mid, encs, size_len]
theorem encD_len (s : ByteArray) : (enc (.mk 1 0 0 s [])).length = s.size + 5 := by
 rw [encD]
 simp [q4_len, size_len]
 omega
theorem tData_yes {s : ByteArray} (h : s.size ≤ 131067) : tData s = some (.mk 1 0 0 s []) := lim_small (by rw [encD_len]; omega)
theorem good_data {s : ByteArray} (h : s.size < 4294967296) : good (.mk 1 0 0 s []) := good_leaf ⟨rfl, rfl, rfl, h⟩
theorem ofT_yes {s : List UInt8} (h : s.length ≤ 100000) : ∃ t, ofT s = some t ∧ fine t ∧ (enc t).length ≤ s.length + 5 := by
 by_cases ho : opaqueP s
 ·obtain ⟨t, ht, rfl, hk⟩ := ho
  exact ⟨t, ofT_op ht hk, ⟨ht, by omega⟩, by omega⟩
 ·have e : (bs s).size = s.length := rfl
  refine ⟨_, by rw [ofT_no ho]; exact tData_yes (by rw [e]; omega), ⟨good_data (by rw [e]; omega), by rw [encD_len, e]; omega⟩, by rw [encD_len, e]; omega⟩
open Classical in
/-- The bytes of a field's term. -/
noncomputable def bytF (t : Tm) : Option (List UInt8) := if t.k = 1 then (if opaqueP t.s.data.toList then none else some t.s.data.toList) else some (enc t)
theorem bytF_ofT {s : List UInt8} {t : Tm} (h : ofT s = some t) (hl : s.length ≤ 100000) : bytF t = some s := by
 by_cases ho : opaqueP s
 ·obtain ⟨u, hu, rfl, hk⟩ := ho
  rw [ofT_op hu hk] at h
  cases h
  unfold bytF
  rw [if_neg hk]
 ·rw [ofT_no ho, tData_yes (by show s.length ≤ _; omega)] at h
  cases h
  unfold bytF
  exact (if_pos rfl).trans (if_neg ho)
noncomputable def fldT (x : Fld) : Option Tm := if x.k = 116 then ofT x.s else tData (bs (putF x).2)
noncomputable def payT (p : List UInt8) : Option Tm := match decS p with
 | .ok n l => tList (tData (bs [UInt8.ofNat n]) :: l.map fldT)
 | _ => tData (bs p)
noncomputable def pieceT (c : UInt8) (t : Tm) : Option (List UInt8) := if c.toNat = 116 then (bytF t).map textL else if t.k = 1 then some t.s.data.toList else none
noncomputable def joinGo : List UInt8 → List Tm → List UInt8 → Option (List UInt8)
 | c :: f, t :: l, out => match pieceT c t with
  | some s => joinGo f l (out ++ s)
  | none => none
 | _, _, out => some out
noncomputable def joinT : List Tm → Option (List UInt8)
 | [] => none
 | d :: r => if d.k = 1 ∧ d.s.size = 1 then (if (fit ((d.s.data.toList.headD 0).toNat : Nat) r.length).2 = true then joinGo (fit ((d.s.data.toList.headD 0).toNat : Nat) r.length).1.data.toList r [d.s.data.toList.headD 0] else none) else none
theorem joinT_of {d : Tm} {r : List Tm} {c : UInt8} (hk : d.k = 1) (hs : d.s.data.toList = [c]) : joinT (d :: r) = if (fit (c.toNat : Nat) r.length).2 = true then joinGo (fit (c.toNat : Nat) r.length).1.data.toList r [c] else none := by
 have h1 : d.s.size = 1 := by rw [← size_len, hs]; rfl
 simp only [joinT]
 rw [if_pos ⟨hk, h1⟩, hs]
 rfl
theorem joinT_no {d : Tm} {r : List Tm} (h : ¬ (d.k = 1 ∧ d.s.size = 1)) : joinT (d :: r) = none := by
 simp only [joinT]
 rw [if_neg h]
noncomputable def rawT (t : Tm) : Option (List UInt8) := if t.k = 1 then some t.s.data.toList else if t.k = 10 then joinT t.l else none
open Classical in
/-- The payload of a term. -/
noncomputable def bytesT (t : Tm) : Option (List UInt8) := match rawT t with
 | some s => if s.length ≤ 32768 ∧ payT s = some t then some s else none
 | none => none
theorem bytesT_of {t : Tm} {s : List UInt8} (h : rawT t = some s) (h1 : s.length ≤ 32768) (h2 : payT s = some t) : bytesT t = some s := by
 unfold bytesT
 rw [h]
 exact if_pos ⟨h1, h2⟩
theorem bytesT_no {t : Tm} {s : List UInt8} (h : rawT t = some s) (h2 : ¬ (s.length ≤ 32768 ∧ payT s = some t)) : bytesT t = none := by
 unfold bytesT
 rw [h]
 exact if_neg h2
theorem bytesT_none {t : Tm} (h : rawT t = none) : bytesT t = none := by
 unfold bytesT
 rw [h]
theorem put_116 {x : Fld} (h : okF x) (hk : x.k = 116) : (putF x).2 = textL x.s := by
 unfold putF
 rw [if_neg (by omega), if_neg (by omega), if_neg (by omega), if_neg (by omega), if_neg (by omega), if_neg (by omega)]
theorem fldT_yes {x : Fld} (h : okF x) (hl : (putF x).2.length ≤ 100000) : ∃ t, fldT x = some t ∧ fine t ∧ (enc t).length ≤ (putF x).2.length + 5 ∧ ∀ c : UInt8, c.toNat = x.k → pieceT c t = some (putF x).2 := by
 unfold fldT
 by_cases hk : x.k = 116
 ·rw [if_pos hk]
  have hp := put_116 h hk
  have hs : x.s.length + 4 = (putF x).2.length := by rw [hp]; unfold textL; rw [List.length_append, q4_len]; omega
  obtain ⟨t, h1, h2, h3⟩ := ofT_yes (s := x.s) (by omega)
  refine ⟨t, h1, h2, by omega, fun c hc => ?_⟩
  unfold pieceT
  rw [if_pos (by omega), bytF_ofT h1 (by omega), hp]
  rfl
 ·rw [if_neg hk]
  have e : (bs (putF x).2).size = (putF x).2.length := rfl
  refine ⟨_, tData_yes (by rw [e]; omega), ⟨good_data (by rw [e]; omega), by rw [encD_len, e]; omega⟩, by rw [encD_len, e]; omega, fun c hc => ?_⟩
  unfold pieceT
  rw [if_neg (by omega)]
  exact if_pos rfl
theorem form_le {n : Int} {f : ByteArray} (h : f ∈ forms n) : f.size ≤ 13 := by
 have key : ∀ g ∈ forms n, g.size ≤ 13 := by
  unfold forms
  repeat' refine ite_ok (P := fun l : List ByteArray => ∀ g ∈ l, g.size ≤ 13) ?_ ?_
  all_goals decide
 exact key f h
theorem putFs_mem {x : Fld} {l : List Fld} (h : x ∈ l) : (putF x).2.length ≤ (putFs l).length := by
 induction l with
 | nil => cases h
 | cons y l ih =>
  rw [putFs_cons, List.length_append]
  rcases List.mem_cons.1 h with rfl | h
  ·omega
  ·have := ih h
   omega
theorem flds_yes : ∀ (l : List Fld) (f out : List UInt8), l.map (·.k) = f.map (·.toNat) → (∀ x ∈ l, okF x) → (putFs l).length ≤ 100000 →
  ∃ r : List Tm, l.map fldT = r.map some ∧ (∀ t ∈ r, fine t) ∧ (encs r).length ≤ (putFs l).length + 5 * l.length ∧ joinGo f r out = some (out ++ putFs l)
 | [], f, out, hk, _, _ => by
  have : f = [] := by simpa using hk.symm
  subst this
  exact ⟨[], rfl, by simp, by simp [encs], by simp [joinGo, putFs]⟩
 | x :: l, [], out, hk, _, _ => by simp at hk
 | x :: l, c :: f, out, hk, h, hl => by
  rw [putFs_cons, List.length_append] at hl
  simp only [List.map_cons, List.cons.injEq] at hk
  obtain ⟨t, h1, h2, h3, h4⟩ := fldT_yes (h x (by simp)) (by omega)
  obtain ⟨r, r1, r2, r3, r4⟩ := flds_yes l f (out ++ (putF x).2) hk.2 (fun y hy => h y (List.mem_cons_of_mem _ hy)) (by omega)
  refine ⟨t :: r, by rw [List.map_cons, List.map_cons, h1, r1], fun u hu => ?_, ?_, ?_⟩
  ·rcases List.mem_cons.1 hu with rfl | hu
   ·exact h2
   ·exact r2 u hu
  ·show (enc t ++ encs r).length ≤ _
   rw [List.length_append, putFs_cons, List.length_append, List.length_cons]
   omega
  ·unfold joinGo
   rw [h4 c hk.1.symm]
   simp only
   rw [r4, putFs_cons, List.append_assoc]
theorem enc_list_len (r : List Tm) : (enc (.mk 10 0 0 eB r)).length = (encs r).length + 5 := by
 simp [enc, head, mid, q4_len]
 omega
theorem good_list {r : List Tm} (h : ∀ t ∈ r, good t) (hl : r.length ≤ 32) : good (.mk 10 0 0 eB r) := by
 unfold good
 refine ⟨⟨rfl, rfl, hl, rfl⟩, trivial, (goods_iff r).2 h⟩
theorem pay_yes {p : List UInt8} (hp : p.length ≤ 32768) : ∃ t, payT p = some t ∧ fine t ∧ bytesT t = some p := by
 unfold payT
 split
 ·rename_i n l hd
  obtain ⟨he, _⟩ := enc_dec hd
  unfold encS at he
  split at he
  ·rename_i hf
   obtain ⟨f1, f2⟩ := fit_get hf
   have hfl : l.length = (fit (n : Int) l.length).1.data.toList.length := f2.symm.trans (size_len _)
   obtain ⟨e1, e2, e3, e4⟩ := encGo_get hfl he
   have hn := forms_num (n := (n : Int)) (by intro e; rw [e] at f1; simp at f1)
   have hpl : ([UInt8.ofNat (n : Int).toNat] ++ putFs l).length = p.length := by rw [e3]
   rw [List.length_append, List.length_singleton] at hpl
   have hll : l.length ≤ 13 := by
    have := form_le f1
    omega
   obtain ⟨r, r1, r2, r3, r4⟩ := flds_yes l (fit (n : Int) l.length).1.data.toList [UInt8.ofNat n] e1 e2 (by omega)
   have hd1 : tData (bs [UInt8.ofNat n]) = some (.mk 1 0 0 (bs [UInt8.ofNat n]) []) := tData_yes (by show (1 : Nat) ≤ _; decide)
   have hlen := congrArg List.length r1
   rw [List.length_map, List.length_map] at hlen
   rw [hd1, r1, show (some (Tm.mk 1 0 0 (bs [UInt8.ofNat n]) []) :: r.map some) = ((Tm.mk 1 0 0 (bs [UInt8.ofNat n]) []) :: r).map some from rfl]
   have hg : good (.mk 10 0 0 eB ((Tm.mk 1 0 0 (bs [UInt8.ofNat n]) []) :: r)) := good_list (fun t ht => by
    rcases List.mem_cons.1 ht with rfl | ht
    ·exact good_data (by show (1 : Nat) < _; decide)
    ·exact (r2 t ht).1) (by rw [List.length_cons]; omega)
   have hel : (enc (.mk 10 0 0 eB ((Tm.mk 1 0 0 (bs [UInt8.ofNat n]) []) :: r))).length ≤ 131072 := by
    rw [enc_list_len]
    have h6 := encD_len (bs [UInt8.ofNat n])
    have h7 : (bs [UInt8.ofNat n]).size = 1 := rfl
    show (enc (.mk 1 0 0 (bs [UInt8.ofNat n]) []) ++ encs r).length + 5 ≤ _
    rw [List.length_append]
    omega
   have hL : tList (((Tm.mk 1 0 0 (bs [UInt8.ofNat n]) []) :: r).map some) = some (.mk 10 0 0 eB ((Tm.mk 1 0 0 (bs [UInt8.ofNat n]) []) :: r)) := by
    rw [tList_at (by rw [List.length_map, List.length_cons]; omega) rfl]
    exact lim_small hel
   refine ⟨_, hL, ⟨hg, hel⟩, bytesT_of (s := p) ?_ hp ?_⟩
   ·show (if (10 : Nat) = 1 then _ else if (10 : Nat) = 10 then joinT ((Tm.mk 1 0 0 (bs [UInt8.ofNat n]) []) :: r) else none) = some p
    rw [if_neg (by decide), if_pos rfl]
    have hc : ((UInt8.ofNat n).toNat : Nat) = n := by
     rw [UInt8.toNat_ofNat']
     omega
    rw [joinT_of (c := UInt8.ofNat n) rfl rfl, hc, ← hlen, if_pos hf, r4, e3]
    simp
   ·unfold payT
    rw [hd]
    simp only
    rw [hd1, r1]
    exact hL
  ·cases he
 ·rename_i hno
  have e : (bs p).size = p.length := rfl
  have ht := tData_yes (s := bs p) (by rw [e]; omega)
  refine ⟨_, ht, ⟨good_data (by rw [e]; omega), by rw [encD_len, e]; omega⟩, bytesT_of (s := p) ?_ hp ?_⟩
  ·show (if (1 : Nat) = 1 then _ else _) = some p
   rw [if_pos rfl]
   rfl
  ·unfold payT
   split
   ·rename_i n l hd
    exact absurd hd (hno n l)
   ·exact ht
theorem payT_yes {p : List UInt8} {t : Tm} (hp : p.length ≤ 32768) (h : payT p = some t) : fine t ∧ bytesT t = some p := by
 obtain ⟨u, h1, h2, h3⟩ := pay_yes hp
 rw [h1] at h
 cases h
 exact ⟨h2, h3⟩
end Go.Proofs.YtmgfcjpifkoahaaGreatDoor
