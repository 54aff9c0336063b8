/-
  Payloads as plain data: how a message is written, and how it is read; that these undo each other. Conditions: none.
-/
import Derived.Test.YtdhopoafpddjpaaDoorMsgP
import Derived.Test.YtdhopoafpddjpaaDoorSchemaFit
set_option linter.unusedVariables false
set_option linter.unusedSimpArgs false
namespace Go.Proofs.YtdhopoafpddjpaaDoor
/-- What reading by a form gives: values, or what is wrong at which place, or that something is left. -/
inductive RdR where
  | ok (l : List Fld)
  | no (e : Nat) (i : Nat)
  | tail
def RdR.cons (x : Fld) : RdR → RdR
  | .ok l => .ok (x :: l)
  | .no e j => .no e j
  | .tail => .tail
def readFs : List UInt8 → List UInt8 → Nat → RdR
  | [], r, _ => if r = [] then .ok [] else .tail
  | c :: f, r, i => match getF c.toNat r with
    | .no e => .no e i
    | .ok x r' => (readFs f r' (i + 1)).cons x
theorem readFs_of {c : UInt8} {f r r' : List UInt8} {i : Nat} {x : Fld} (h : getF c.toNat r = .ok x r') : readFs (c :: f) r i = (readFs f r' (i + 1)).cons x := by
  simp only [readFs]
  rw [h]
theorem readFs_no {c : UInt8} {f r : List UInt8} {i e : Nat} (h : getF c.toNat r = .no e) : readFs (c :: f) r i = .no e i := by
  simp only [readFs]
  rw [h]
/-- Values on the wire. -/
def putFs (l : List Fld) : List UInt8 := (l.map fun x => (putF x).2).flatten
theorem putFs_cons (x : Fld) (l : List Fld) : putFs (x :: l) = (putF x).2 ++ putFs l := by simp [putFs]
/-- May a value be written? -/
def okF (x : Fld) : Prop := plainF x = true ∧ (putF x).1 = 0
theorem okF_put {x : Fld} (h : okF x) : putF x = (0, (putF x).2) := by
  have := h.2
  generalize putF x = p at this ⊢
  obtain ⟨a, b⟩ := p
  simp only at this
  rw [this]
theorem readFs_put {l : List Fld} {f : List UInt8} (hk : l.map (·.k) = f.map (·.toNat)) (h : ∀ x ∈ l, okF x ∧ fitF x) (i : Nat) : readFs f (putFs l) i = .ok l := by
  induction f generalizing l i with
  | nil =>
    have : l = [] := by simpa using hk
    subst this
    rfl
  | cons c f ih =>
    cases l with
    | nil => simp at hk
    | cons x l =>
      simp only [List.map_cons, List.cons.injEq] at hk
      have hx := h x (by simp)
      rw [putFs_cons]
      have hg := get_put hx.2 hx.1.1 (okF_put hx.1) (putFs l)
      rw [hk.1] at hg
      rw [readFs_of hg, ih hk.2 (fun y hy => h y (by simp [hy]))]
      rfl
theorem readFs_get {f r : List UInt8} {i : Nat} {l : List Fld} (h : readFs f r i = .ok l) : l.map (·.k) = f.map (·.toNat) ∧ (∀ x ∈ l, okF x) ∧ r = putFs l := by
  induction f generalizing l r i with
  | nil =>
    simp only [readFs] at h
    split at h
    · rename_i hr
      injection h with h
      subst h hr
      exact ⟨rfl, by simp, rfl⟩
    · cases h
  | cons c f ih =>
    simp only [readFs] at h
    cases hg : getF c.toNat r with
    | no e => rw [hg] at h; cases h
    | ok x r' =>
      rw [hg] at h
      simp only at h
      cases h2 : readFs f r' (i + 1) with
      | no e j => rw [h2] at h; cases h
      | tail => rw [h2] at h; cases h
      | ok l2 =>
        rw [h2] at h
        simp only [RdR.cons] at h
        injection h with h
        subst h
        obtain ⟨e1, e2, b, e3, e4⟩ := put_get hg
        obtain ⟨e5, e6, e7⟩ := ih h2
        refine ⟨by simp [e1, e5], ?_, by rw [putFs_cons, e3, e4, e7]⟩
        intro y hy
        rcases List.mem_cons.1 hy with rfl | hy
        · exact ⟨e2, by rw [e3]⟩
        · exact e6 y hy
/-- A payload, or what is wrong and where: in all (no place), or at a value. -/
inductive EncR where
  | ok (s : List UInt8)
  | none
  | long
  | bad (e : Nat) (i : Nat)
def encGo : List UInt8 → List Fld → Nat → List UInt8 → EncR
  | c :: f, x :: l, i, out =>
    if x.k = c.toNat ∧ plainF x = true then (if (putF x).1 = 0 then (if 32768 < (out ++ (putF x).2).length then .long else encGo f l (i + 1) (out ++ (putF x).2)) else .bad (putF x).1 i) else .bad 3 i
  | _, _, _, out => .ok out
def encS (num : Int) (l : List Fld) : EncR :=
  if (fit num l.length).2 = true then encGo (fit num l.length).1.data.toList l 0 [UInt8.ofNat num.toNat] else .none
theorem encGo_ok {f : List UInt8} {l : List Fld} {i : Nat} {out : List UInt8} (hk : l.map (·.k) = f.map (·.toNat)) (h : ∀ x ∈ l, okF x) (hl : (out ++ putFs l).length ≤ 32768) : encGo f l i out = .ok (out ++ putFs l) := by
  induction f generalizing l i out with
  | nil =>
    have : l = [] := by simpa using hk
    subst this
    simp [encGo, putFs]
  | cons c f ih =>
    cases l with
    | nil => simp at hk
    | cons x l =>
      simp only [List.map_cons, List.cons.injEq] at hk
      have hx := h x (by simp)
      rw [putFs_cons, ← List.append_assoc] at hl
      simp only [encGo]
      rw [if_pos ⟨hk.1, hx.1⟩, if_pos hx.2, if_neg (by rw [List.length_append] at hl; omega), ih hk.2 (fun y hy => h y (by simp [hy])) hl, putFs_cons, List.append_assoc]
theorem encGo_get {f : List UInt8} {l : List Fld} {i : Nat} {out s : List UInt8} (hl : l.length = f.length) (h : encGo f l i out = .ok s) : l.map (·.k) = f.map (·.toNat) ∧ (∀ x ∈ l, okF x) ∧ s = out ++ putFs l ∧ (s.length ≤ 32768 ∨ s = out) := by
  induction f generalizing l i out with
  | nil =>
    have : l = [] := by simpa using hl
    subst this
    simp only [encGo] at h
    injection h with h
    subst h
    exact ⟨rfl, by simp, by simp [putFs], .inr rfl⟩
  | cons c f ih =>
    cases l with
    | nil => simp at hl
    | cons x l =>
      simp only [encGo] at h
      split at h
      · rename_i h1
        split at h
        · rename_i h2
          split at h
          · cases h
          · rename_i h3
            obtain ⟨e1, e2, e3, e4⟩ := ih (by simpa using hl) h
            refine ⟨by simp [h1.1, e1], ?_, by rw [putFs_cons, e3, List.append_assoc], ?_⟩
            · intro y hy
              rcases List.mem_cons.1 hy with rfl | hy
              · exact ⟨h1.2, h2⟩
              · exact e2 y hy
            · rcases e4 with e4 | e4
              · exact .inl e4
              · exact .inl (by rw [e4]; omega)
        · cases h
      · cases h
/-- A message, or what is wrong. -/
inductive DecR where
  | ok (num : Nat) (l : List Fld)
  | all (e : Nat)
  | bad (num : Nat) (e : RdR)
/-- The first form that fits. -/
def firstF : List ByteArray → List UInt8 → Option (List Fld)
  | [], _ => none
  | f :: fs, r => match readFs f.data.toList r 0 with
    | .ok l => some l
    | _ => firstF fs r
theorem firstF_of {f : ByteArray} {fs : List ByteArray} {r : List UInt8} {l : List Fld} (h : readFs f.data.toList r 0 = .ok l) : firstF (f :: fs) r = some l := by
  simp only [firstF]
  rw [h]
theorem firstF_no {f : ByteArray} {fs : List ByteArray} {r : List UInt8} (h : ∀ l, readFs f.data.toList r 0 ≠ .ok l) : firstF (f :: fs) r = firstF fs r := by
  cases hr : readFs f.data.toList r 0 with
  | ok l => exact absurd hr (h l)
  | no e j =>
    simp only [firstF, hr]
  | tail =>
    simp only [firstF, hr]
theorem firstF_get {fs : List ByteArray} {r : List UInt8} {l : List Fld} (h : firstF fs r = some l) : ∃ f ∈ fs, readFs f.data.toList r 0 = .ok l := by
  induction fs with
  | nil => cases h
  | cons f fs ih =>
    cases hr : readFs f.data.toList r 0 with
    | ok l2 =>
      rw [firstF_of hr] at h
      injection h with h
      subst h
      exact ⟨f, by simp, hr⟩
    | no e j =>
      rw [firstF_no (by intro l2 e2; rw [hr] at e2; cases e2)] at h
      obtain ⟨f2, h2, h3⟩ := ih h
      exact ⟨f2, by simp [h2], h3⟩
    | tail =>
      rw [firstF_no (by intro l2 e2; rw [hr] at e2; cases e2)] at h
      obtain ⟨f2, h2, h3⟩ := ih h
      exact ⟨f2, by simp [h2], h3⟩
def decS (p : List UInt8) : DecR := match p with
  | [] => .all 4
  | c :: r => if 32768 < (c :: r).length then .all 2 else match forms c.toNat with
    | [] => .all 6
    | f :: fs => match firstF (f :: fs) r with
      | some l => .ok c.toNat l
      | none => .bad c.toNat (readFs f.data.toList r 0)
theorem decS_of {c : UInt8} {r : List UInt8} {l : List Fld} (hl : (c :: r).length ≤ 32768) (h : firstF (forms c.toNat) r = some l) : decS (c :: r) = .ok c.toNat l := by
  simp only [decS]
  rw [if_neg (by omega)]
  split
  · rename_i hf
    rw [hf] at h
    cases h
  · rename_i f fs hf
    rw [hf] at h
    rw [h]
theorem decS_get {p : List UInt8} {num : Nat} {l : List Fld} (h : decS p = .ok num l) : ∃ c r, p = c :: r ∧ num = c.toNat ∧ p.length ≤ 32768 ∧ firstF (forms num) r = some l := by
  cases p with
  | nil => cases h
  | cons c r =>
    simp only [decS] at h
    split at h
    · cases h
    · rename_i hl
      split at h
      · cases h
      · rename_i f fs hf
        split at h
        · rename_i l2 hl2
          injection h with h1 h2
          subst h1 h2
          exact ⟨c, r, rfl, rfl, by omega, by rw [hf, hl2]⟩
        · cases h
/-- Forms of more than one. -/
theorem forms_many (n : Int) : (forms n).length ≤ 1 ∨ n = 31 ∨ n = 50 := by
  by_cases h1 : n = 31
  · exact .inr (.inl h1)
  · by_cases h2 : n = 50
    · exact .inr (.inr h2)
    · left
      unfold forms
      rw [if_neg h1, if_neg h2]
      repeat' refine ite_ok (P := fun l : List ByteArray => l.length ≤ 1) ?_ ?_
      all_goals decide
theorem forms_31 : forms 31 = [⟨#[116, 116, 116]⟩, ⟨#[109, 109]⟩] := by decide +kernel
theorem forms_50 : forms 50 = [⟨#[115, 115, 115]⟩, ⟨#[115, 115, 115, 98, 115, 116]⟩, ⟨#[115, 115, 115, 98, 115, 116, 116]⟩] := by decide +kernel
theorem getF_text {k : Nat} (hk : k = 115 ∨ k = 116) {s : List UInt8} (h : s.length < 4294967296) (r : List UInt8) : getF k (textL s ++ r) = .ok ⟨k, 0, s, []⟩ r := by
  rw [getF_else _ (by omega) (by omega) (by omega) (by omega) (by omega) (by omega), gText_put h, Res.map_ok]
theorem getF_nil {k : Nat} (hk : k = 115 ∨ k = 116 ∨ k = 98) : getF k [] = .no 4 := by
  rcases hk with rfl | rfl | rfl <;> rfl
theorem readFs_app {l : List Fld} {f : List UInt8} (hk : l.map (·.k) = f.map (·.toNat)) (h : ∀ x ∈ l, okF x ∧ fitF x) {r : List UInt8} (hr : r ≠ []) (i : Nat) : readFs f (putFs l ++ r) i = .tail := by
  induction f generalizing l i with
  | nil =>
    have : l = [] := by simpa using hk
    subst this
    simp only [readFs, putFs, List.map_nil, List.flatten_nil, List.nil_append]
    rw [if_neg hr]
  | cons c f ih =>
    cases l with
    | nil => simp at hk
    | cons x l =>
      simp only [List.map_cons, List.cons.injEq] at hk
      have hx := h x (by simp)
      have hg := get_put hx.2 hx.1.1 (okF_put hx.1) (putFs l ++ r)
      rw [hk.1] at hg
      rw [putFs_cons, List.append_assoc, readFs_of hg, ih hk.2 (fun y hy => h y (by simp [hy]))]
      rfl
theorem put_ne {x : Fld} (h : okF x) : (putF x).2 ≠ [] := by
  obtain ⟨h1, h2⟩ := h
  unfold putF at h2 ⊢
  repeat' split at h2
  all_goals first | (simp only at h2; omega) | skip
  all_goals simp only [*, if_true, if_false, ne_eq, not_false_eq_true]
  all_goals first
    | (simp; done)
    | (simp [q4]; done)
    | (simp [wholeL, q4]; done)
    | (simp [textL, q4]; done)
    | (simp [extsL, q4]; done)
    | (intro e; simp_all; done)
    | (simp_all; done)
theorem putFs_app (l m : List Fld) : putFs (l ++ m) = putFs l ++ putFs m := by simp [putFs]
/-- What a form wrote no earlier form of the number reads. -/
theorem first_put {n : Int} {l : List Fld} {f : ByteArray} (hf : f ∈ forms n) (hk : l.map (·.k) = f.data.toList.map (·.toNat)) (h : ∀ x ∈ l, okF x ∧ fitF x) : firstF (forms n) (putFs l) = some l := by
  rcases forms_many n with h1 | rfl | rfl
  · generalize forms n = fs at hf h1
    match fs, hf, h1 with
    | [g], hf, _ =>
      simp only [List.mem_singleton] at hf
      subst hf
      exact firstF_of (readFs_put hk h 0)
    | [], hf, _ => simp at hf
  · rw [forms_31] at hf ⊢
    simp only [List.mem_cons, List.not_mem_nil, or_false] at hf
    rcases hf with rfl | rfl
    · exact firstF_of (readFs_put hk h 0)
    · rw [firstF_no]
      · exact firstF_of (readFs_put hk h 0)
      · match l, hk, h with
        | [x, y], hk, h =>
          simp only [List.map_cons, List.map_nil, List.cons.injEq, and_true] at hk
          have hx := h x (by simp)
          have hy := h y (by simp)
          obtain ⟨kx, ky⟩ := hk
          have wx : (putF x).2 = textL (signL x.s) ∧ (signL x.s).length < 4294967296 := by
            have h2 := hx.1.2
            have h3 := hx.2.1
            have h4 := signL_len x.s
            unfold putF at h2 ⊢
            rw [if_neg (by rw [kx]; decide), if_neg (by rw [kx]; decide), if_pos (by rw [kx]; rfl)] at h2 ⊢
            split at h2
            · simp at h2
            · rename_i ha
              rw [if_neg ha]
              exact ⟨whole_text (by simpa using ha), by omega⟩
          have wy : (putF y).2 = textL (signL y.s) ∧ (signL y.s).length < 4294967296 := by
            have h2 := hy.1.2
            have h3 := hy.2.1
            have h4 := signL_len y.s
            unfold putF at h2 ⊢
            rw [if_neg (by rw [ky]; decide), if_neg (by rw [ky]; decide), if_pos (by rw [ky]; rfl)] at h2 ⊢
            split at h2
            · simp at h2
            · rename_i ha
              rw [if_neg ha]
              exact ⟨whole_text (by simpa using ha), by omega⟩
          intro l2 hl2
          rw [putFs_cons, putFs_cons, wx.1, wy.1, show putFs [] = [] from rfl] at hl2
          have g1 : getF (116 : UInt8).toNat (textL (signL x.s) ++ (textL (signL y.s) ++ [])) = _ := getF_text (.inr rfl) wx.2 _
          have g2 : getF (116 : UInt8).toNat (textL (signL y.s) ++ []) = _ := getF_text (.inr rfl) wy.2 _
          have g3 : getF (116 : UInt8).toNat [] = _ := getF_nil (.inr (.inl rfl))
          have hh : readFs [116, 116, 116] (textL (signL x.s) ++ (textL (signL y.s) ++ [])) 0 = .no 4 2 := by
            rw [readFs_of g1, readFs_of g2, readFs_no g3]
            rfl
          rw [show (⟨#[116, 116, 116]⟩ : ByteArray).data.toList = [116, 116, 116] from rfl, hh] at hl2
          cases hl2
        | [], hk, _ => simp at hk
        | [_], hk, _ => simp at hk
        | _ :: _ :: _ :: _, hk, _ => simp at hk
  · rw [forms_50] at hf ⊢
    have cut : ∀ (g : List UInt8) (m : Nat), l.map (·.k) = (g ++ (f.data.toList.drop m)).map (·.toNat) → g.length = m → g.length < l.length → ∀ l2, readFs g (putFs l) 0 ≠ .ok l2 := by
      intro g m hg hgm hlt l2 hl2
      have hsp : l = l.take m ++ l.drop m := (List.take_append_drop m l).symm
      have hk1 : (l.take m).map (·.k) = g.map (·.toNat) := by
        rw [List.map_take, hg, List.map_append, List.take_append_of_le_length (by simp [hgm]), List.take_of_length_le (by simp [hgm])]
      have hne : putFs (l.drop m) ≠ [] := by
        have hd : l.drop m ≠ [] := by
          intro e
          have := congrArg List.length e
          simp at this
          omega
        obtain ⟨y, q, hq⟩ := List.exists_cons_of_ne_nil hd
        have hy : y ∈ l := List.mem_of_mem_drop (by rw [hq]; simp)
        rw [hq, putFs_cons]
        intro e
        exact put_ne (h y hy).1 (List.append_eq_nil_iff.1 e).1
      rw [hsp, putFs_app] at hl2
      rw [readFs_app hk1 (fun x hx => h x (List.mem_of_mem_take hx)) hne 0] at hl2
      cases hl2
    simp only [List.mem_cons, List.not_mem_nil, or_false] at hf
    have hlen := congrArg List.length hk
    simp only [List.length_map] at hlen
    rcases hf with rfl | rfl | rfl
    · exact firstF_of (readFs_put hk h 0)
    · rw [firstF_no (cut [115, 115, 115] 3 hk rfl (by rw [hlen]; decide))]
      exact firstF_of (readFs_put hk h 0)
    · rw [firstF_no (cut [115, 115, 115] 3 hk rfl (by rw [hlen]; decide)), firstF_no (cut [115, 115, 115, 98, 115, 116] 6 hk rfl (by rw [hlen]; decide))]
      exact firstF_of (readFs_put hk h 0)
theorem fit_get {n : Int} {m : Nat} (h : (fit n m).2 = true) : (fit n m).1 ∈ forms n ∧ (fit n m).1.size = m := by
  unfold fit at h ⊢
  split at h
  · rename_i s hs
    have h1 := List.mem_of_find?_eq_some hs
    have h2 := List.find?_some hs
    simp only [beq_iff_eq] at h2
    exact ⟨h1, show s.size = m by omega⟩
  · cases h
theorem forms_num {n : Int} (h : forms n ≠ []) : 1 ≤ n ∧ n ≤ 60 := by
  by_cases hn : 1 ≤ n ∧ n ≤ 60
  · exact hn
  · exfalso
    apply h
    unfold forms
    repeat rw [if_neg (by omega)]
/-- WHAT WAS WRITTEN IS READ BACK. -/
theorem dec_enc {n : Int} {l : List Fld} {s : List UInt8} (hl : ∀ x ∈ l, fitF x) (h : encS n l = .ok s) : decS s = .ok n.toNat l ∧ 1 ≤ n ∧ n ≤ 60 ∧ 1 ≤ s.length ∧ s.length ≤ 32768 := by
  unfold encS at h
  split at h
  · rename_i hf
    obtain ⟨h1, h2⟩ := fit_get hf
    have hn := forms_num (n := n) (by intro e; rw [e] at h1; simp at h1)
    obtain ⟨e1, e2, e3, e4⟩ := encGo_get (h2.symm.trans (show (fit n l.length).1.size = (fit n l.length).1.data.toList.length from rfl)) h
    have hc : ((UInt8.ofNat n.toNat).toNat : Nat) = n.toNat := by
      rw [UInt8.toNat_ofNat']
      omega
    have hs : s.length ≤ 32768 := by
      rcases e4 with e4 | e4
      · exact e4
      · rw [e4]; simp
    have hp := first_put h1 e1 (fun x hx => ⟨e2 x hx, hl x hx⟩)
    subst e3
    refine ⟨?_, hn.1, hn.2, by simp, hs⟩
    rw [List.singleton_append] at hs ⊢
    have := decS_of (c := UInt8.ofNat n.toNat) (r := putFs l) hs (by rw [hc, show ((n.toNat : Nat) : Int) = n from by omega]; exact hp)
    rw [this, hc]
  · cases h
/-- WHAT IS READ IS WRITTEN JUST SO. -/
theorem enc_dec {p : List UInt8} {n : Nat} {l : List Fld} (h : decS p = .ok n l) : encS n l = .ok p ∧ p.length ≤ 32768 := by
  obtain ⟨c, r, rfl, rfl, h3, h4⟩ := decS_get h
  obtain ⟨f, hf, hr⟩ := firstF_get h4
  obtain ⟨e1, e2, e3⟩ := readFs_get hr
  have hlen := congrArg List.length e1
  simp only [List.length_map] at hlen
  obtain ⟨i, hi, hfi⟩ := List.getElem_of_mem hf
  have hfit := fit_own (c.toNat : Int) hi
  rw [hfi] at hfit
  have hsz : (l.length : Int) = (f.size : Int) := by rw [hlen]; rfl
  refine ⟨?_, h3⟩
  unfold encS
  rw [hsz, hfit, if_pos rfl, encGo_ok e1 e2]
  · rw [e3]
    simp
  · rw [← e3]
    simpa using h3
end Go.Proofs.YtdhopoafpddjpaaDoor
