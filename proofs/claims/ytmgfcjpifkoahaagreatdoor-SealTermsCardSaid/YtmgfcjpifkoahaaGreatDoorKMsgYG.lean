/-
  Several of my texts in one: RRead, RefG, ReX, MsgY.
-/
import Derived.Test.YtmgfcjpifkoahaaGreatDoorKRGetXG
import Derived.Test.YtmgfcjpifkoahaaGreatDoorKDecW
import Derived.Test.YtmgfcjpifkoahaaGreatDoorKGetsG
import Derived.Test.YtmgfcjpifkoahaaGreatDoorKBaseG
import Derived.Test.YtmgfcjpifkoahaaGreatDoorKPutNG
import Derived.Test.YtmgfcjpifkoahaaGreatDoorKReadW
import Derived.Test.YtmgfcjpifkoahaaGreatDoorKKxPG
set_option linter.unusedVariables false
set_option linter.unusedSimpArgs false
namespace Go.Proofs.YtmgfcjpifkoahaaGreatDoor
open Go.RowKit Go.ChangeShapes Go.WideShapes Go.Sort
theorem two_fin {w : World} {r : Nat} {t : TypeId} {o0 o1 : Value} (h : Blk w r t #[o0, o1]) (v0 v1 : Value) : Blk ((w.setCell ⟨r, 0, none⟩ v0).setCell ⟨r, 1, none⟩ v1) r t #[v0, v1] := by
 have h1 := (h.set_ 0 v0).set_ 1 v1
 simpa using h1
structure RReadI (w : World) (f : ByteArray) (R : RdR) (i : Nat) (A : Option Addr) (c : Nat) (wr : World) : Prop where
 bel : Below w.heap.size w wr
 eb : Blk wr w.heap.size 81 #[.int .i64 0, .string ⟨#[]⟩]
 st : ∃ zs r', FOwn (w.heap.size + 2) wr A i c zs ∧ Rd3 wr (w.heap.size + 1) r' 0 ∧ r'.length ≤ 1000000 ∧ R = consAll (zs.map (·.1)) (readFs (f.data.toList.drop i) r' i)
end Go.Proofs.YtmgfcjpifkoahaaGreatDoor
/-
  The contracts of the reference for package schema. Conditions: none.
-/
namespace Go.Proofs.YtmgfcjpifkoahaaGreatDoor
open Go.RowKit

def table : List (Int × ByteArray × List ByteArray) := [
 (1, ⟨#[100, 105, 115, 99, 111, 110, 110, 101, 99, 116]⟩, [⟨#[117, 115, 115]⟩]),
 (2, ⟨#[105, 103, 110, 111, 114, 101]⟩, [⟨#[115]⟩]),
 (3, ⟨#[117, 110, 105, 109, 112, 108, 101, 109, 101, 110, 116, 101, 100]⟩, [⟨#[117]⟩]),
 (4, ⟨#[100, 101, 98, 117, 103]⟩, [⟨#[98, 115, 115]⟩]),
 (5, ⟨#[115, 101, 114, 118, 105, 99, 101, 45, 114, 101, 113, 117, 101, 115, 116]⟩, [⟨#[115]⟩]),
 (6, ⟨#[115, 101, 114, 118, 105, 99, 101, 45, 97, 99, 99, 101, 112, 116]⟩, [⟨#[115]⟩]),
 (7, ⟨#[101, 120, 116, 45, 105, 110, 102, 111]⟩, [⟨#[101]⟩]),
 (20, ⟨#[107, 101, 120, 105, 110, 105, 116]⟩, [⟨#[99, 110, 110, 110, 110, 110, 110, 110, 110, 110, 110, 98, 117]⟩]),
 (21, ⟨#[110, 101, 119, 107, 101, 121, 115]⟩, [⟨#[]⟩]),
 (30, ⟨#[101, 99, 100, 104, 45, 105, 110, 105, 116]⟩, [⟨#[116]⟩]),
 (31, ⟨#[114, 101, 112, 108, 121, 45, 111, 114, 45, 103, 114, 111, 117, 112]⟩, [⟨#[116, 116, 116]⟩, ⟨#[109, 109]⟩]),
 (32, ⟨#[103, 101, 120, 45, 105, 110, 105, 116]⟩, [⟨#[116]⟩]),
 (33, ⟨#[103, 101, 120, 45, 114, 101, 112, 108, 121]⟩, [⟨#[116, 116, 116]⟩]),
 (34, ⟨#[103, 101, 120, 45, 114, 101, 113, 117, 101, 115, 116]⟩, [⟨#[117, 117, 117]⟩]),
 (50, ⟨#[117, 115, 101, 114, 97, 117, 116, 104, 45, 114, 101, 113, 117, 101, 115, 116]⟩, [⟨#[115, 115, 115]⟩, ⟨#[115, 115, 115, 98, 115, 116]⟩, ⟨#[115, 115, 115, 98, 115, 116, 116]⟩]),
 (51, ⟨#[117, 115, 101, 114, 97, 117, 116, 104, 45, 102, 97, 105, 108, 117, 114, 101]⟩, [⟨#[110, 98]⟩]),
 (52, ⟨#[117, 115, 101, 114, 97, 117, 116, 104, 45, 115, 117, 99, 99, 101, 115, 115]⟩, [⟨#[]⟩]),
 (53, ⟨#[117, 115, 101, 114, 97, 117, 116, 104, 45, 98, 97, 110, 110, 101, 114]⟩, [⟨#[115, 115]⟩]),
 (60, ⟨#[117, 115, 101, 114, 97, 117, 116, 104, 45, 112, 107, 45, 111, 107]⟩, [⟨#[115, 116]⟩])]

end Go.Proofs.YtmgfcjpifkoahaaGreatDoor

/-
  The contracts of the reference for package schema: Of, Fit, Class. Conditions: none.
-/
namespace Go.Proofs.YtmgfcjpifkoahaaGreatDoor
open Go.RowKit

end Go.Proofs.YtmgfcjpifkoahaaGreatDoor

/-
  The rest of the reference for package schema: Fit, Class; and how it stands to the program's. Conditions: none.
-/
namespace Go.Proofs.YtmgfcjpifkoahaaGreatDoor
open Go.RowKit

@[go_sem] theorem row_field1 (a b c : Value) (w : World) : (Instr.field 115 (.agg #[a, b, c]) 1).run Tryz.prog w = .ok b w := by kernel_rfl
@[go_sem] theorem row_field2 (a b c : Value) (w : World) : (Instr.field 115 (.agg #[a, b, c]) 2).run Tryz.prog w = .ok c w := by kernel_rfl
end Go.Proofs.YtmgfcjpifkoahaaGreatDoor

/-
  The contract of the reference's Decode. Conditions: payloads of at most 1,000,000 bytes.
-/
namespace Go.Proofs.YtmgfcjpifkoahaaGreatDoor
open Go.RowKit Go.ChangeShapes Go.WideShapes Go.Sort
structure TwoB (w : World) (h : Nat) (a b c d : Value) : Prop where
 m : Blk w h 60 #[a, b]
 e : Blk w (h + 1) 81 #[c, d]
theorem TwoB.below {w w' : World} {h : Nat} {a b c d : Value} (t : TwoB w h a b c d) (hb : Below w.heap.size w w') : TwoB w' h a b c d := ⟨t.m.below hb t.m.lt, t.e.below hb t.e.lt⟩
theorem TwoB.set {w : World} {h : Nat} {a b c d : Value} (t : TwoB w h a b c d) (v0 v1 u0 u1 : Value) : TwoB ((((w.setCell ⟨h, 0, none⟩ v0).setCell ⟨h, 1, none⟩ v1).setCell ⟨h + 1, 0, none⟩ u0).setCell ⟨h + 1, 1, none⟩ u1) h v0 v1 u0 u1 := by
 have h1 := two_fin t.m v0 v1
 have h2 := (t.e.far (p := ⟨h, 0, none⟩) (by simp) v0).far (p := ⟨h, 1, none⟩) (by simp) v1
 exact ⟨(h1.far (p := ⟨h + 1, 0, none⟩) (by simp) u0).far (p := ⟨h + 1, 1, none⟩) (by simp) u1, two_fin h2 u0 u1⟩
theorem TwoB.bel {B : Nat} {w0 w : World} {h : Nat} (hb : Below B w0 w) (hh : B ≤ h) (v0 v1 u0 u1 : Value) : Below B w0 ((((w.setCell ⟨h, 0, none⟩ v0).setCell ⟨h, 1, none⟩ v1).setCell ⟨h + 1, 0, none⟩ u0).setCell ⟨h + 1, 1, none⟩ u1) :=
 (((hb.setCell (p := ⟨h, 0, none⟩) hh v0).setCell (p := ⟨h, 1, none⟩) hh v1).setCell (p := ⟨h + 1, 0, none⟩) (Nat.le_succ_of_le hh) u0).setCell (p := ⟨h + 1, 1, none⟩) (Nat.le_succ_of_le hh) u1
theorem TwoB.flds {lo : Nat} {w : World} {A : Option Addr} {l : List Fld} {h : Nat} (hf : FldsN lo w A l) (hh : h + 1 < lo) (v0 v1 u0 u1 : Value) : FldsN lo ((((w.setCell ⟨h, 0, none⟩ v0).setCell ⟨h, 1, none⟩ v1).setCell ⟨h + 1, 0, none⟩ u0).setCell ⟨h + 1, 1, none⟩ u1) A l :=
 (((hf.setCell (p := ⟨h, 0, none⟩) (by show h < lo; omega) v0).setCell (p := ⟨h, 1, none⟩) (by show h < lo; omega) v1).setCell (p := ⟨h + 1, 0, none⟩) hh u0).setCell (p := ⟨h + 1, 1, none⟩) hh u1
structure RDecI (w : World) (p : List UInt8) (fs : List ByteArray) (num : Nat) (fv : Value) (b4 j : Nat) (wr : World) : Prop where
 bel : Below w.heap.size w wr
 two : TwoB wr w.heap.size (.int .i64 0) (.slice none 0 0) (.int .i64 0) (.string ⟨#[]⟩)
 row : Blk wr b4 115 #[.int .i64 num, .string (word (num : Nat)), fv]
 rest : firstF fs (p.drop 1) = firstF (fs.drop j) (p.drop 1)
end Go.Proofs.YtmgfcjpifkoahaaGreatDoor
/-
  The contract of the reference's Encode. Conditions: texts and lists that fit.
-/
namespace Go.Proofs.YtmgfcjpifkoahaaGreatDoor
open Go.RowKit Go.ChangeShapes Go.WideShapes Go.Sort
structure REncI (w : World) (num : Int) (l : List Fld) (A : Option Addr) (c : Nat) (f : ByteArray) (i : Nat) (out : List UInt8) (wr : World) : Prop where
 bel : Below w.heap.size w wr
 box : Blk wr w.heap.size 60 #[.int .i64 num, .slice A l.length c]
 eb : Blk wr (w.heap.size + 1) 81 #[.int .i64 0, .string ⟨#[]⟩]
 go : encGo (f.data.toList.drop i) (l.drop i) i out = encS num l
 len : out.length ≤ 32768
end Go.Proofs.YtmgfcjpifkoahaaGreatDoor

/-
  Law MsgEncodes: the walk of the statement. Conditions: the library's handle and number are as they were laid.
-/
namespace Go.Proofs.YtmgfcjpifkoahaaGreatDoor
open Go.RowKit Go.ChangeShapes Go.WideShapes Go.Sort
end Go.Proofs.YtmgfcjpifkoahaaGreatDoor

/-
  The plain law of kexinit's message: the thirteen values of a decoded message 20. Conditions: none.
-/
namespace Go.Proofs.YtmgfcjpifkoahaaGreatDoor
end Go.Proofs.YtmgfcjpifkoahaaGreatDoor

/-
  The contracts of kexinit's truth and of Build's closure that puts a list. Conditions: rows that fit.
-/
namespace Go.Proofs.YtmgfcjpifkoahaaGreatDoor
open Go.RowKit Go.ChangeShapes Go.WideShapes Go.Sort
structure MkMsg (lo : Nat) (mb : Nat) (num : Int) (A : Option Addr) (n c : Nat) (zs : List (Fld × Value)) (w : World) : Prop where
 len : zs.length = n
 m : Blk w mb 60 #[.int .i64 num, .slice A n c]
 own : w.ownsRow lo 67 4 (.slice A n c) n (fcs zs)
end Go.Proofs.YtmgfcjpifkoahaaGreatDoor

/-
  The contract of shibbolethlaw04.Same: are two lists of names the same? Conditions: the arguments read as lists.
-/
namespace Go.Proofs.YtmgfcjpifkoahaaGreatDoor
open Go.RowKit

end Go.Proofs.YtmgfcjpifkoahaaGreatDoor

/-
  The contracts of slices.Clone and slices.Equal at lists of strings. Conditions: the arguments read as lists; few enough for one block.
-/
namespace Go.Proofs.YtmgfcjpifkoahaaGreatDoor
open Go.RowKit

end Go.Proofs.YtmgfcjpifkoahaaGreatDoor
namespace Go.Proofs.YtmgfcjpifkoahaaGreatDoor
open Go.RowKit Go.ChangeShapes Go.WideShapes Go.Sort
theorem flat_mem {α : Type} {f : α → List UInt8} {l : List α} {y : α} (h : y ∈ l) : (f y).length ≤ ((l.map f).flatten).length := by
 induction l with
 | nil => cases h
 | cons x l ih =>
  simp only [List.map_cons, List.flatten_cons, List.length_append]
  rcases List.mem_cons.1 h with rfl | h
  ·omega
  ·have := ih h
   omega
theorem cntF_lt (k : Nat) : cntF k = 0 ∨ cntF k = 1 ∨ cntF k = 2 := by
 unfold cntF
 split
 ·exact .inl rfl
 ·split
  ·exact .inr (.inr rfl)
  ·exact .inr (.inl rfl)
theorem signL_ge {s : List UInt8} (h : aheadL s = false) : s.length ≤ (signL s).length := by
 have h1 := plainL_len (signL s)
 rw [signL_plain h] at h1
 exact h1
theorem putF_big {x : Fld} (h : okF x) : x.s.length ≤ (putF x).2.length + 16 ∧ x.l.length ≤ 16 ∧ ∀ y ∈ x.l, y.length ≤ (putF x).2.length + 64 := by
 obtain ⟨hp, hk⟩ := h
 rcases cntF_lt x.k with hc | hc | hc
 ·have e := fld_num hp hc
  rw [e]
  exact ⟨by simp, by simp, fun y hy => by simp at hy⟩
 ·have e := fld_txt hp hc
  have hl : x.l = [] := congrArg Fld.l e
  clear e
  refine ⟨?_, by rw [hl]; simp, fun y hy => by rw [hl] at hy; cases hy⟩
  unfold putF at hk ⊢
  unfold cntF at hc
  split
  ·simp_all
  ·split
   ·simp_all
   ·split
    ·split
     ·simp_all
     ·rename_i ha
      have ha2 : aheadL x.s = false := by simpa using ha
      have := signL_ge ha2
      simp only
      rw [whole_text ha2]
      simp only [textL, List.length_append, q4_len]
      omega
    ·split
     ·simp_all
     ·split
      ·split
       ·simp only
        omega
       ·simp_all
      ·split
       ·simp_all
       ·simp only [textL, List.length_append, q4_len]
        omega
 ·have e := fld_lst hp hc
  have hs : x.s = [] := congrArg Fld.s e
  clear e
  rw [hs]
  unfold putF at hk ⊢
  unfold cntF at hc
  split
  ·simp_all
  ·split
   ·simp_all
   ·split
    ·simp_all
    ·split
     ·split
      ·rename_i hw
       obtain ⟨w1, w2⟩ := wrong_ok hw
       exact ⟨by simp, w1, fun y hy => by have := (right_len (w2 y hy)).2; omega⟩
      ·simp_all
     ·split
      ·simp_all
      ·split
       ·split
        ·simp_all
        ·split
         ·simp_all
         ·refine ⟨by simp, by omega, fun y hy => ?_⟩
          have := flat_mem (f := textL) hy
          simp only [textL, List.length_append, q4_len] at this
          simp only [extsL, List.length_append, q4_len]
          omega
       ·simp_all
end Go.Proofs.YtmgfcjpifkoahaaGreatDoor
