/-
  How long a value's parts may be. Conditions: none.
-/
import Derived.Test.YtnhekaepgpbijaaGreatDoorHMsgG
set_option linter.unusedVariables false
set_option linter.unusedSimpArgs false
set_option maxHeartbeats 40000000
set_option maxRecDepth 100000
namespace Go.Proofs.YtnhekaepgpbijaaGreatDoor
open Go.RowKit
theorem flat_mem {α:Type} {f:α→List UInt8} {l:List α} {y:α} (h:y∈l):(f y).length≤((l.map f).flatten).length:=by
 induction l with
 | nil=>cases h
 | cons x l ih =>
  simp only [List.map_cons,List.flatten_cons,List.length_append]
  rcases List.mem_cons.1 h with rfl | h
  ·omega
  ·have:=ih h
   omega
theorem cntF_lt (k:Nat):cntF k=0∨cntF k=1∨cntF k=2:=by
 unfold cntF
 split
 ·exact .inl rfl
 ·split
  ·exact .inr (.inr rfl)
  ·exact .inr (.inl rfl)
theorem signL_ge {s:List UInt8} (h:aheadL s=false):s.length≤(signL s).length:=by
 have h1:=plainL_len (signL s)
 rw [signL_plain h] at h1
 exact h1
theorem putF_big {x:Fld} (h:okF x):x.s.length≤(putF x).2.length+16∧x.l.length≤16∧∀y∈x.l,y.length≤(putF x).2.length+64:=by
 obtain ⟨hp,hk⟩:=h
 rcases cntF_lt x.k with hc | hc | hc
 ·have e:=fld_num hp hc
  rw [e]
  exact ⟨by simp,by simp,fun y hy=>by simp at hy⟩
 ·have e:=fld_txt hp hc
  have hl:x.l=[]:=congrArg Fld.l e
  clear e
  refine ⟨?_,by rw [hl];simp,fun y hy=>by rw [hl] at hy;cases hy⟩
  unfold putF at hk ⊢
  unfold cntF at hc
  split
  ·simp_all
  ·split
   ·simp_all
   ·split
    ·split
     ·simp_all
     ·rename_i ha
      have ha2:aheadL x.s=false:=by simpa using ha
      have:=signL_ge ha2
      simp only
      rw [whole_text ha2]
      simp only [textL,List.length_append,q4_len]
      omega
    ·split
     ·simp_all
     ·split
      ·split
       ·simp only
        omega
       ·simp_all
      ·split
       ·simp_all
       ·simp only [textL,List.length_append,q4_len]
        omega
 ·have e:=fld_lst hp hc
  have hs:x.s=[]:=congrArg Fld.s e
  clear e
  rw [hs]
  unfold putF at hk ⊢
  unfold cntF at hc
  split
  ·simp_all
  ·split
   ·simp_all
   ·split
    ·simp_all
    ·split
     ·split
      ·rename_i hw
       obtain ⟨w1,w2⟩:=wrong_ok hw
       exact ⟨by simp,w1,fun y hy=>by have:=(right_len (w2 y hy)).2;omega⟩
      ·simp_all
     ·split
      ·simp_all
      ·split
       ·split
        ·simp_all
        ·split
         ·simp_all
         ·refine ⟨by simp,by omega,fun y hy=>?_⟩
          have:=flat_mem (f:=textL) hy
          simp only [textL,List.length_append,q4_len] at this
          simp only [extsL,List.length_append,q4_len]
          omega
       ·simp_all
end Go.Proofs.YtnhekaepgpbijaaGreatDoor
