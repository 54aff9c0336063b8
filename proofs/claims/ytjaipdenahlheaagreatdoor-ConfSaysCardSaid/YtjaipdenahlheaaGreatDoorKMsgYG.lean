/-
  Several of my texts in one: RRead, RefG, ReX, MsgY.
-/
import Derived.Test.YtjaipdenahlheaaGreatDoorKRGetXG
import Derived.Test.YtjaipdenahlheaaGreatDoorKDecW
import Derived.Test.YtjaipdenahlheaaGreatDoorKEncG
import Derived.Test.YtjaipdenahlheaaGreatDoorKAsG
import Derived.Test.YtjaipdenahlheaaGreatDoorKPutM
import Derived.Test.YtjaipdenahlheaaGreatDoorKReadW
import Derived.Test.YtjaipdenahlheaaGreatDoorKKxPG
import Derived.Deep.RegionHeld3
import Derived.Deep.DeepCutAuto
set_option linter.unusedVariables false
set_option linter.unusedSimpArgs false
namespace Go.Proofs.YtjaipdenahlheaaGreatDoor
open Go.RowKit Go.ChangeShapes Go.WideShapes Go.Sort
theorem two_fin {w : World} {r : Nat} {t : TypeId} {o0 o1 : Value} (h : Blk w r t #[o0, o1]) (v0 v1 : Value) : Blk ((w.setCell ⟨r, 0, none⟩ v0).setCell ⟨r, 1, none⟩ v1) r t #[v0, v1] := by
  have h1 := (h.set_ 0 v0).set_ 1 v1
  simpa using h1
/-- The state of the reference's read. -/
structure RReadI (w : World) (f : ByteArray) (R : RdR) (i : Nat) (A : Option Addr) (c : Nat) (wr : World) : Prop where
  bel : Below w.heap.size w wr
  eb : Blk wr w.heap.size 42 #[.int .i64 0, .string ⟨#[]⟩]
  st : ∃ zs r', FOwn (w.heap.size + 2) wr A i c zs ∧ Rd3 wr (w.heap.size + 1) r' 0 ∧ r'.length ≤ 1000000 ∧ R = consAll (zs.map (·.1)) (readFs (f.data.toList.drop i) r' i)
end Go.Proofs.YtjaipdenahlheaaGreatDoor
/-
  The contracts of the reference for package schema. Conditions: none.
-/
namespace Go.Proofs.YtjaipdenahlheaaGreatDoor
open Go.RowKit

def table : List (Int × ByteArray × List ByteArray) := [
  (1, ⟨#[100, 105, 115, 99, 111, 110, 110, 101, 99, 116]⟩, [⟨#[117, 115, 115]⟩]),
  (2, ⟨#[105, 103, 110, 111, 114, 101]⟩, [⟨#[115]⟩]),
  (3, ⟨#[117, 110, 105, 109, 112, 108, 101, 109, 101, 110, 116, 101, 100]⟩, [⟨#[117]⟩]),
  (4, ⟨#[100, 101, 98, 117, 103]⟩, [⟨#[98, 115, 115]⟩]),
  (5, ⟨#[115, 101, 114, 118, 105, 99, 101, 45, 114, 101, 113, 117, 101, 115, 116]⟩, [⟨#[115]⟩]),
  (6, ⟨#[115, 101, 114, 118, 105, 99, 101, 45, 97, 99, 99, 101, 112, 116]⟩, [⟨#[115]⟩]),
  (7, ⟨#[101, 120, 116, 45, 105, 110, 102, 111]⟩, [⟨#[101]⟩]),
  (20, ⟨#[107, 101, 120, 105, 110, 105, 116]⟩, [⟨#[99, 110, 110, 110, 110, 110, 110, 110, 110, 110, 110, 98, 117]⟩]),
  (21, ⟨#[110, 101, 119, 107, 101, 121, 115]⟩, [⟨#[]⟩]),
  (30, ⟨#[101, 99, 100, 104, 45, 105, 110, 105, 116]⟩, [⟨#[116]⟩]),
  (31, ⟨#[114, 101, 112, 108, 121, 45, 111, 114, 45, 103, 114, 111, 117, 112]⟩, [⟨#[116, 116, 116]⟩, ⟨#[109, 109]⟩]),
  (32, ⟨#[103, 101, 120, 45, 105, 110, 105, 116]⟩, [⟨#[116]⟩]),
  (33, ⟨#[103, 101, 120, 45, 114, 101, 112, 108, 121]⟩, [⟨#[116, 116, 116]⟩]),
  (34, ⟨#[103, 101, 120, 45, 114, 101, 113, 117, 101, 115, 116]⟩, [⟨#[117, 117, 117]⟩]),
  (50, ⟨#[117, 115, 101, 114, 97, 117, 116, 104, 45, 114, 101, 113, 117, 101, 115, 116]⟩, [⟨#[115, 115, 115]⟩, ⟨#[115, 115, 115, 98, 115, 116]⟩, ⟨#[115, 115, 115, 98, 115, 116, 116]⟩]),
  (51, ⟨#[117, 115, 101, 114, 97, 117, 116, 104, 45, 102, 97, 105, 108, 117, 114, 101]⟩, [⟨#[110, 98]⟩]),
  (52, ⟨#[117, 115, 101, 114, 97, 117, 116, 104, 45, 115, 117, 99, 99, 101, 115, 115]⟩, [⟨#[]⟩]),
  (53, ⟨#[117, 115, 101, 114, 97, 117, 116, 104, 45, 98, 97, 110, 110, 101, 114]⟩, [⟨#[115, 115]⟩]),
  (60, ⟨#[117, 115, 101, 114, 97, 117, 116, 104, 45, 112, 107, 45, 111, 107]⟩, [⟨#[115, 116]⟩])]

end Go.Proofs.YtjaipdenahlheaaGreatDoor

/-
  The contracts of the reference for package schema: Of, Fit, Class. Conditions: none.
-/
namespace Go.Proofs.YtjaipdenahlheaaGreatDoor
open Go.RowKit

end Go.Proofs.YtjaipdenahlheaaGreatDoor

/-
  The rest of the reference for package schema: Fit, Class; and how it stands to the program's. Conditions: none.
-/
namespace Go.Proofs.YtjaipdenahlheaaGreatDoor
open Go.RowKit

@[go_sem] theorem row_field1 (a b c : Value) (w : World) : (Instr.field 136 (.agg #[a, b, c]) 1).run Tryz.prog w = .ok b w := by kernel_rfl
@[go_sem] theorem row_field2 (a b c : Value) (w : World) : (Instr.field 136 (.agg #[a, b, c]) 2).run Tryz.prog w = .ok c w := by kernel_rfl
end Go.Proofs.YtjaipdenahlheaaGreatDoor

/-
  The contract of the reference's Decode. Conditions: payloads of at most 1,000,000 bytes.
-/
namespace Go.Proofs.YtjaipdenahlheaaGreatDoor
open Go.RowKit Go.ChangeShapes Go.WideShapes Go.Sort
/-- The two results' cells. -/
structure TwoB (w : World) (h : Nat) (a b c d : Value) : Prop where
  m : Blk w h 86 #[a, b]
  e : Blk w (h + 1) 42 #[c, d]
theorem TwoB.below {w w' : World} {h : Nat} {a b c d : Value} (t : TwoB w h a b c d) (hb : Below w.heap.size w w') : TwoB w' h a b c d := ⟨t.m.below hb t.m.lt, t.e.below hb t.e.lt⟩
theorem TwoB.set {w : World} {h : Nat} {a b c d : Value} (t : TwoB w h a b c d) (v0 v1 u0 u1 : Value) : TwoB ((((w.setCell ⟨h, 0, none⟩ v0).setCell ⟨h, 1, none⟩ v1).setCell ⟨h + 1, 0, none⟩ u0).setCell ⟨h + 1, 1, none⟩ u1) h v0 v1 u0 u1 := by
  have h1 := two_fin t.m v0 v1
  have h2 := (t.e.far (p := ⟨h, 0, none⟩) (by simp) v0).far (p := ⟨h, 1, none⟩) (by simp) v1
  exact ⟨(h1.far (p := ⟨h + 1, 0, none⟩) (by simp) u0).far (p := ⟨h + 1, 1, none⟩) (by simp) u1, two_fin h2 u0 u1⟩
theorem TwoB.bel {B : Nat} {w0 w : World} {h : Nat} (hb : Below B w0 w) (hh : B ≤ h) (v0 v1 u0 u1 : Value) : Below B w0 ((((w.setCell ⟨h, 0, none⟩ v0).setCell ⟨h, 1, none⟩ v1).setCell ⟨h + 1, 0, none⟩ u0).setCell ⟨h + 1, 1, none⟩ u1) :=
  (((hb.setCell (p := ⟨h, 0, none⟩) hh v0).setCell (p := ⟨h, 1, none⟩) hh v1).setCell (p := ⟨h + 1, 0, none⟩) (Nat.le_succ_of_le hh) u0).setCell (p := ⟨h + 1, 1, none⟩) (Nat.le_succ_of_le hh) u1
theorem TwoB.flds {lo : Nat} {w : World} {A : Option Addr} {l : List Fld} {h : Nat} (hf : FldsN lo w A l) (hh : h + 1 < lo) (v0 v1 u0 u1 : Value) : FldsN lo ((((w.setCell ⟨h, 0, none⟩ v0).setCell ⟨h, 1, none⟩ v1).setCell ⟨h + 1, 0, none⟩ u0).setCell ⟨h + 1, 1, none⟩ u1) A l :=
  (((hf.setCell (p := ⟨h, 0, none⟩) (by show h < lo; omega) v0).setCell (p := ⟨h, 1, none⟩) (by show h < lo; omega) v1).setCell (p := ⟨h + 1, 0, none⟩) hh u0).setCell (p := ⟨h + 1, 1, none⟩) hh u1
/-- The state of the reference's Decode in its loop. -/
structure RDecI (w : World) (p : List UInt8) (fs : List ByteArray) (num : Nat) (fv : Value) (b4 j : Nat) (wr : World) : Prop where
  bel : Below w.heap.size w wr
  two : TwoB wr w.heap.size (.int .i64 0) (.slice none 0 0) (.int .i64 0) (.string ⟨#[]⟩)
  row : Blk wr b4 136 #[.int .i64 num, .string (word (num : Nat)), fv]
  rest : firstF fs (p.drop 1) = firstF (fs.drop j) (p.drop 1)
end Go.Proofs.YtjaipdenahlheaaGreatDoor
/-
  The contract of the reference's Encode. Conditions: texts and lists that fit.
-/
namespace Go.Proofs.YtjaipdenahlheaaGreatDoor
open Go.RowKit Go.ChangeShapes Go.WideShapes Go.Sort
/-- The state of the reference's Encode in its loop. -/
structure REncI (w : World) (num : Int) (l : List Fld) (A : Option Addr) (c : Nat) (f : ByteArray) (i : Nat) (out : List UInt8) (wr : World) : Prop where
  bel : Below w.heap.size w wr
  box : Blk wr w.heap.size 86 #[.int .i64 num, .slice A l.length c]
  eb : Blk wr (w.heap.size + 1) 42 #[.int .i64 0, .string ⟨#[]⟩]
  go : encGo (f.data.toList.drop i) (l.drop i) i out = encS num l
  len : out.length ≤ 32768
end Go.Proofs.YtjaipdenahlheaaGreatDoor

/-
  Law MsgEncodes: the walk of the statement. Conditions: the library's handle and number are as they were laid.
-/
namespace Go.Proofs.YtjaipdenahlheaaGreatDoor
open Go.RowKit Go.ChangeShapes Go.WideShapes Go.Sort
end Go.Proofs.YtjaipdenahlheaaGreatDoor

/-
  The plain law of kexinit's message: the thirteen values of a decoded message 20. Conditions: none.
-/
namespace Go.Proofs.YtjaipdenahlheaaGreatDoor
/-- The values of kexinit's message. -/
def kexFs (ck : List UInt8) (ls : List (List (List UInt8))) (f u : Int) : List Fld := ⟨99, 0, ck, []⟩ :: ((ls.map fun l => ⟨110, 0, [], l⟩) ++ [⟨98, f, [], []⟩, ⟨117, u, [], []⟩])
def form20 : ByteArray := ⟨#[99, 110, 110, 110, 110, 110, 110, 110, 110, 110, 110, 98, 117]⟩
theorem forms_20 : forms 20 = [form20] := by decide +kernel
theorem ok_99 {x : Fld} (h : okF x) (hk : x.k = 99) : x = ⟨99, 0, x.s, []⟩ := by
  have := fld_txt h.1 (by rw [hk]; rfl)
  rw [hk] at this
  exact this
theorem ok_110 {x : Fld} (h : okF x) (hk : x.k = 110) : x = ⟨110, 0, [], x.l⟩ := by
  have := fld_lst h.1 (by rw [hk]; rfl)
  rw [hk] at this
  exact this
theorem ok_98 {x : Fld} (h : okF x) (hk : x.k = 98) : x = ⟨98, x.n, [], []⟩ ∧ (x.n = 0 ∨ x.n = 1) := by
  have e := fld_num h.1 (by rw [hk]; rfl)
  rw [hk] at e
  refine ⟨e, ?_⟩
  have h2 := h.2
  unfold putF at h2
  rw [if_pos hk] at h2
  split at h2
  · exact .inl ‹_›
  · split at h2
    · exact .inr ‹_›
    · cases h2
theorem ok_117 {x : Fld} (h : okF x) (hk : x.k = 117) : x = ⟨117, x.n, [], []⟩ ∧ 0 ≤ x.n := by
  have e := fld_num h.1 (by rw [hk]; rfl)
  rw [hk] at e
  refine ⟨e, ?_⟩
  have h2 := h.2
  unfold putF at h2
  rw [if_neg (by omega), if_pos hk] at h2
  split at h2
  · rename_i h3
    exact h3.1
  · cases h2
theorem dec_20 {p : List UInt8} {l : List Fld} (h : decS p = .ok 20 l) : ∃ ck ls f u, ls.length = 10 ∧ l = kexFs ck ls f u ∧ (f = 0 ∨ f = 1) ∧ 0 ≤ u := by
  obtain ⟨cc, rr, hp, hn, _, hff⟩ := decS_get h
  rw [show ((20 : Nat) : Int) = 20 from rfl, forms_20] at hff
  obtain ⟨f0, hf0, hrd⟩ := firstF_get hff
  obtain rfl : f0 = form20 := by simpa using hf0
  obtain ⟨hk, hok, _⟩ := readFs_get hrd
  have hk2 : l.map (·.k) = [99, 110, 110, 110, 110, 110, 110, 110, 110, 110, 110, 98, 117] := hk.trans (by decide)
  have hlen : l.length = 13 := by
    have := congrArg List.length hk2
    simpa using this
  clear h hff hrd hk
  match l, hlen, hk2, hok with
  | [x0, x1, x2, x3, x4, x5, x6, x7, x8, x9, x10, x11, x12], _, hk2, hok =>
    simp only [List.map_cons, List.map_nil, List.cons.injEq, and_true] at hk2
    obtain ⟨k0, k1, k2, k3, k4, k5, k6, k7, k8, k9, k10, k11, k12⟩ := hk2
    have o := fun x (hx : x ∈ [x0, x1, x2, x3, x4, x5, x6, x7, x8, x9, x10, x11, x12]) => hok x hx
    obtain ⟨e11, f11⟩ := ok_98 (o x11 (by simp)) k11
    obtain ⟨e12, f12⟩ := ok_117 (o x12 (by simp)) k12
    have e0 := ok_99 (o x0 (by simp)) k0
    have e1 := ok_110 (o x1 (by simp)) k1
    have e2 := ok_110 (o x2 (by simp)) k2
    have e3 := ok_110 (o x3 (by simp)) k3
    have e4 := ok_110 (o x4 (by simp)) k4
    have e5 := ok_110 (o x5 (by simp)) k5
    have e6 := ok_110 (o x6 (by simp)) k6
    have e7 := ok_110 (o x7 (by simp)) k7
    have e8 := ok_110 (o x8 (by simp)) k8
    have e9 := ok_110 (o x9 (by simp)) k9
    have e10 := ok_110 (o x10 (by simp)) k10
    refine ⟨x0.s, [x1.l, x2.l, x3.l, x4.l, x5.l, x6.l, x7.l, x8.l, x9.l, x10.l], x11.n, x12.n, rfl, ?_, f11, f12⟩
    simp only [kexFs, List.map_cons, List.map_nil, List.cons_append, List.nil_append]
    rw [← e0, ← e1, ← e2, ← e3, ← e4, ← e5, ← e6, ← e7, ← e8, ← e9, ← e10, ← e11, ← e12]
theorem kexFs_inj {ck ck' : List UInt8} {ls ls' : List (List (List UInt8))} {f f' u u' : Int} (hl : ls.length = 10) (hl' : ls'.length = 10) (h : kexFs ck ls f u = kexFs ck' ls' f' u') : ck = ck' ∧ ls = ls' ∧ f = f' ∧ u = u' := by
  unfold kexFs at h
  injection h with h1 h2
  injection h1 with _ _ h3 _
  obtain ⟨h4, h5⟩ := List.append_inj h2 (by simp [hl, hl'])
  refine ⟨h3, ?_, ?_, ?_⟩
  · refine List.map_inj_right (f := fun l : List (List UInt8) => (⟨110, 0, [], l⟩ : Fld)) ?_ |>.1 h4
    intro a b e
    injection e
  · injection h5 with h6 _
    injection h6
  · injection h5 with _ h6
    injection h6 with h7 _
    injection h7
end Go.Proofs.YtjaipdenahlheaaGreatDoor

/-
  The contracts of kexinit's truth and of Build's closure that puts a list. Conditions: rows that fit.
-/
namespace Go.Proofs.YtjaipdenahlheaaGreatDoor
open Go.RowKit Go.ChangeShapes Go.WideShapes Go.Sort
theorem ktruth_any (b : Bool) (w : World) : Calls Tryz.prog 43 #[.bool b] w (fun e w' => e = .returned (.int .i64 (if b = true then 1 else 0)) ∧ w' = w) := by
  cases b with
  | true =>
    go_enter Tryz.func43, Tryz.ntmps43
    go_wp2_with fail
    go_ret
    exact ⟨rfl, rfl⟩
  | false =>
    go_enter Tryz.func43, Tryz.ntmps43
    go_wp2_with fail
    go_ret
    exact ⟨rfl, rfl⟩
theorem own_setK {W : World} {B g size n : Nat} {e t : TypeId} {v : Value} {xs : List Value} {cs : Array Value} (h : W.ownsRow B e size v n xs) (hb : Blk W g t cs) (hne : e ≠ t) (c : Nat) (u : Value) : (W.setCell ⟨g, c, none⟩ u).ownsRow B e size v n xs :=
  h.kept (only_setCell (only_refl W (some g)) (.inl rfl) u) (.inr (own_blk_ne h hb hne))
/-- A message that is being made in block mb: its values lie in a row of its own from block lo on; the texts lie elsewhere. -/
structure MkMsg (lo : Nat) (mb : Nat) (num : Int) (A : Option Addr) (n c : Nat) (zs : List (Fld × Value)) (w : World) : Prop where
  len : zs.length = n
  m : Blk w mb 86 #[.int .i64 num, .slice A n c]
  own : w.ownsRow lo 83 4 (.slice A n c) n (fcs zs)
/-- What is left where values were put behind the others. -/
def PutL (lo mb : Nat) (num : Int) (A : Option Addr) (n c : Nat) (zs zz : List (Fld × Value)) (m : Nat) (w : World) (e : Ending) (w' : World) : Prop :=
  ∃ A' c' w6, e = .returned (.tuple #[]) ∧ w' = w6.setCell ⟨mb, 1, none⟩ (.slice A' (n + m) c') ∧ MkMsg lo mb num A' (n + m) c' (zs ++ zz) w' ∧ w.grownBy w6 (Value.slice A n c).ownBlock ∧
    ((Value.slice A' (n + m) c').ownBlock = (Value.slice A n c).ownBlock ∨ ∃ j, (Value.slice A' (n + m) c').ownBlock = some j ∧ w.heap.size ≤ j)
theorem putL_of {lo mb : Nat} {num : Int} {A A6 : Option Addr} {n c m c6 : Nat} {zs zz : List (Fld × Value)} {w w6 : World} (h : MkMsg lo mb num A n c zs w) (o : Obj) (hown6 : w6.ownsRow lo 83 4 (.slice A6 (n + m) c6) (n + m) (fcs zs ++ fcs zz))
    (hgr6 : (w.alloc o).grownBy w6 (Value.slice A n c).ownBlock) (hor6 : (Value.slice A6 (n + m) c6).ownBlock = (Value.slice A n c).ownBlock ∨ (Value.slice A6 (n + m) c6).ownBlock = some (w.alloc o).heap.size) (hz : zz.length = m) :
    PutL lo mb num A n c zs zz m w (.returned (.tuple #[])) (w6.setCell ⟨mb, 1, none⟩ (.slice A6 (n + m) c6)) := by
  have hm6 := (h.m.alloc o).grown hgr6 (fun e => own_blk_ne h.own h.m (by decide) e.symm)
  have hset := hm6.set_ 1 (.slice A6 (n + m) c6)
  have hown7 := own_setK hown6 hm6 (by decide) 1 (.slice A6 (n + m) c6)
  have hf : fcs zs ++ fcs zz = fcs (zs ++ zz) := by simp [fcs]
  rw [hf] at hown7
  exact ⟨A6, c6, w6, rfl, rfl, ⟨by rw [List.length_append, h.len, hz], by simpa using hset, hown7⟩, only_trans (only_alloc (only_refl w _) o) hgr6, hor6.imp id fun e => ⟨_, e, by simp⟩⟩
set_option maxHeartbeats 2000000 in
theorem kput_any {lo mb : Nat} {num : Int} {A : Option Addr} {n c : Nat} {zs : List (Fld × Value)} {w : World} (h : MkMsg lo mb num A n c zs w) (hlo : lo ≤ w.heap.size) (hn : n ≤ 1000) (lA : Option Addr) (ll lc : Nat) (l : List (List UInt8)) :
    Calls Tryz.prog 40 #[.slice lA ll lc, .pointer (some ⟨mb, 0, none⟩)] w (PutL lo mb num A n c zs [(⟨110, 0, [], l⟩, .slice lA ll lc)] 1 w) := by
  obtain ⟨iI, hiI, hI0, hI1, hI2⟩ := info_partsN infoFd
  have m0 := h.m.cell 0
  have m1 := h.m.cell 1
  have f1 := h.m.frozen 1
  simp at m0 m1
  have HM := hide h
  have hmlt := h.m.lt
  clear h
  go_enter Tryz.func40, Tryz.ntmps40
  go_wp2_with (first
    | (at_builtin; refine wpList_append_any _ rfl (.tmp 4) (.tmp 7) _ rfl lo 83 iI (.agg #[.int .u8 0, .int .i64 0, .string ⟨#[]⟩, .slice none 0 0]) 4 56 Tryz.underlying84 hiI hI0 hI1 hI2 rfl (by decide) (.slice A n c) n _ rfl (HM.out.own.alloc _) _ (some ⟨_, 0, none⟩) 1 1 [.int .u8 110, .int .i64 0, .string ⟨#[]⟩, .slice lA ll lc] rfl (reads_blkN (Blk.new _ _ _) rfl) (by simp [Value.oneCell']) (by unfold maxLen; omega) (by omega) (by simp only [World.size_alloc]; omega) ?_; intro v6 w6 hown6 hgr6 hor6; obtain ⟨A6, c6, rfl⟩ := own_slN hown6;
       have hm6 := (HM.out.m.alloc (.cells #[.int .u8 110, .int .i64 0, .string ⟨#[]⟩, .slice lA ll lc] 83)).grown hgr6 (fun e => own_blk_ne HM.out.own HM.out.m (by decide) e.symm); have p1 := hm6.cell 1; have g1 := hm6.frozen 1; simp at p1)
    | fail)
  have HP := hide (putL_of (zz := [(⟨110, 0, [], l⟩, .slice lA ll lc)]) HM.out _ hown6 hgr6 hor6 rfl)
  clear hm6 hown6 hgr6 hor6 p1 g1
  exact bodyPost_ret (v := .tuple #[]) (by simp [results, Tryz.results40, go_sem]) rfl HP.out
end Go.Proofs.YtjaipdenahlheaaGreatDoor

/-
  The contract of shibbolethlaw04.Same: are two lists of names the same? Conditions: the arguments read as lists.
-/
namespace Go.Proofs.YtjaipdenahlheaaGreatDoor
open Go.RowKit

set_option maxHeartbeats 400000 in
theorem same_q {lo lo' : Nat} {v v' : Value} {ss ss' : List ByteArray} {w : World} (h1 : Strs lo w v ss) (h2 : Strs lo' w v' ss') (hb1 : ss.length ≤ 9223372036854775807) (hb2 : ss'.length ≤ 9223372036854775807) :
    Calls Tryz.prog 54 #[v, v'] w fun e w' => e = .returned (.bool (decide (ss = ss'))) ∧ ∃ n, w' = w.drewN n := by
  obtain ⟨A, c, rfl, hr⟩ := h1
  obtain ⟨A', c', rfl, hr'⟩ := h2
  by_cases hlen : ss.length = ss'.length
  · have Hlen := hide hlen
    have hle : ss.length ≤ ss'.length ∧ ss'.length ≤ ss.length := by omega
    obtain ⟨hle1, hle2⟩ := hle
    clear hlen
    go_enter Tryz.func54, Tryz.ntmps54
    go_wp2
    go_loopw [5] (fun i wr => ∃ k n : Nat, k ≤ ss.length ∧ i = .int .i64 k ∧ wr = w.drewN n ∧ ss.take k = ss'.take k) (fun i _ => ss.length - (intOf i).toNat)
    case atStart => exact ⟨0, 0, Nat.zero_le _, rfl, rfl, rfl⟩
    case round =>
      obtain ⟨k, n, hk, rfl, rfl, heq⟩ := hrel
      have Heq := hide heq
      clear heq
      by_cases hlt : k < ss.length
      · obtain ⟨ad, rfl, hlo, hc0⟩ := hr.str hlt
        obtain ⟨ad', rfl, hlo', hc0'⟩ := hr'.str (Nat.lt_of_lt_of_le hlt hle1)
        have hc := hc0
        have hc' := hc0'
        clear hc0 hc0'
        generalize hs : ss[k] = s at hc
        generalize hs' : ss'[k]'(Nat.lt_of_lt_of_le hlt hle1) = s' at hc'
        by_cases he : s = s'
        · subst he
          have Hs := hide hs
          have Hs' := hide hs'
          clear hs hs'
          go_wp2
          go_quiet (fail)
          go_wp2
          go_roundw
          case rel =>
            refine ⟨k + 1, _, hlt, by go_num, rfl, ?_⟩
            rw [List.take_succ_eq_append_getElem hlt, List.take_succ_eq_append_getElem (Nat.lt_of_lt_of_le hlt hle1), Heq.out, Hs.out, Hs'.out]
          case measure => simp [intOf]; omega
        · have hne : ss ≠ ss' := by
            rintro rfl
            exact he (hs.symm.trans hs')
          have e1 := bytes_ne he
          clear hs hs'
          go_wp2
          go_quiet (fail)
          go_wp2
          go_ret
          exact ⟨ret_bool (by simp [hne]), _, World.drewN_drewN _ _ _⟩
      · have he : ss = ss' := by
          have h := Heq.out
          rw [List.take_of_length_le (by omega), List.take_of_length_le (by omega)] at h
          exact h
        have He := hide he
        clear he
        go_wp2
        go_ret
        exact ⟨ret_bool (by simp [He.out]), _, rfl⟩
  · have hne : ss ≠ ss' := by
      rintro rfl
      exact hlen rfl
    go_enter Tryz.func54, Tryz.ntmps54
    go_wp2
    go_ret
    exact ⟨ret_bool (by simp [hne]), 0, rfl⟩
theorem same_any {lo lo' : Nat} {v v' : Value} {ss ss' : List ByteArray} {w : World} (h1 : Strs lo w v ss) (h2 : Strs lo' w v' ss') (hb1 : ss.length ≤ 9223372036854775807) (hb2 : ss'.length ≤ 9223372036854775807) :
    Calls Tryz.prog 54 #[v, v'] w fun e w' => e = .returned (.bool (decide (ss = ss'))) ∧ Below w.heap.size w w' :=
  (same_q h1 h2 hb1 hb2).mono fun _ _ ⟨h, n, hw⟩ => ⟨h, by rw [hw]; exact below_drewN (Below.refl _ _) _⟩
end Go.Proofs.YtjaipdenahlheaaGreatDoor

/-
  The contracts of slices.Clone and slices.Equal at lists of strings. Conditions: the arguments read as lists; few enough for one block.
-/
namespace Go.Proofs.YtjaipdenahlheaaGreatDoor
open Go.RowKit

theorem infoStr : (Tryz.prog.info? 9).map (fun i => (i.zero, i.size, i.bytes)) = some (some (.string ByteArray.empty), 1, 16) := by kernel_rfl
end Go.Proofs.YtjaipdenahlheaaGreatDoor
namespace Go.Proofs.YtjaipdenahlheaaGreatDoor
open Go.RowKit Go.ChangeShapes Go.WideShapes Go.Sort
theorem flat_mem {α : Type} {f : α → List UInt8} {l : List α} {y : α} (h : y ∈ l) : (f y).length ≤ ((l.map f).flatten).length := by
  induction l with
  | nil => cases h
  | cons x l ih =>
    simp only [List.map_cons, List.flatten_cons, List.length_append]
    rcases List.mem_cons.1 h with rfl | h
    · omega
    · have := ih h
      omega
theorem cntF_lt (k : Nat) : cntF k = 0 ∨ cntF k = 1 ∨ cntF k = 2 := by
  unfold cntF
  split
  · exact .inl rfl
  · split
    · exact .inr (.inr rfl)
    · exact .inr (.inl rfl)
theorem signL_ge {s : List UInt8} (h : aheadL s = false) : s.length ≤ (signL s).length := by
  have h1 := plainL_len (signL s)
  rw [signL_plain h] at h1
  exact h1
theorem putF_big {x : Fld} (h : okF x) : x.s.length ≤ (putF x).2.length + 16 ∧ x.l.length ≤ 16 ∧ ∀ y ∈ x.l, y.length ≤ (putF x).2.length + 64 := by
  obtain ⟨hp, hk⟩ := h
  rcases cntF_lt x.k with hc | hc | hc
  · have e := fld_num hp hc
    rw [e]
    exact ⟨by simp, by simp, fun y hy => by simp at hy⟩
  · have e := fld_txt hp hc
    have hl : x.l = [] := congrArg Fld.l e
    clear e
    refine ⟨?_, by rw [hl]; simp, fun y hy => by rw [hl] at hy; cases hy⟩
    unfold putF at hk ⊢
    unfold cntF at hc
    split
    · simp_all
    · split
      · simp_all
      · split
        · split
          · simp_all
          · rename_i ha
            have ha2 : aheadL x.s = false := by simpa using ha
            have := signL_ge ha2
            simp only
            rw [whole_text ha2]
            simp only [textL, List.length_append, q4_len]
            omega
        · split
          · simp_all
          · split
            · split
              · simp only
                omega
              · simp_all
            · split
              · simp_all
              · simp only [textL, List.length_append, q4_len]
                omega
  · have e := fld_lst hp hc
    have hs : x.s = [] := congrArg Fld.s e
    clear e
    rw [hs]
    unfold putF at hk ⊢
    unfold cntF at hc
    split
    · simp_all
    · split
      · simp_all
      · split
        · simp_all
        · split
          · split
            · rename_i hw
              obtain ⟨w1, w2⟩ := wrong_ok hw
              exact ⟨by simp, w1, fun y hy => by have := (right_len (w2 y hy)).2; omega⟩
            · simp_all
          · split
            · simp_all
            · split
              · split
                · simp_all
                · split
                  · simp_all
                  · refine ⟨by simp, by omega, fun y hy => ?_⟩
                    have := flat_mem (f := textL) hy
                    simp only [textL, List.length_append, q4_len] at this
                    simp only [extsL, List.length_append, q4_len]
                    omega
              · simp_all
end Go.Proofs.YtjaipdenahlheaaGreatDoor
