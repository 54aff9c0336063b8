/-
  The plain law of fields and payloads as terms, and back. Conditions: none.
-/
import Derived.Test.YtnhekaepgpbijaaGreatDoorHMsgG
import Derived.Test.YtnhekaepgpbijaaGreatDoorHParseAG
set_option linter.unusedVariables false
set_option linter.unusedSimpArgs false
set_option maxHeartbeats 40000000
set_option maxRecDepth 100000
namespace Go.Proofs.YtnhekaepgpbijaaGreatDoor
open Go.RowKit
def opaqueP (s:List UInt8):Prop:=∃t,good t∧s=enc t∧t.k≠1
open Classical in
noncomputable def ofT (s:List UInt8):Option Tm:=if h:opaqueP s then some h.choose else tData (bs s)
theorem enc_one {t u:Tm} (ht:good t) (hu:good u) (h:enc t=enc u):t=u :=
 (enc_inj t u [] [] ht hu (by rw [List.append_nil,List.append_nil];exact h)).1
theorem ofT_op {t:Tm} (ht:good t) (hk:t.k≠1):ofT (enc t)=some t:=by
 have h:opaqueP (enc t):=⟨t,ht,rfl,hk⟩
 unfold ofT
 rw [dif_pos h]
 exact congrArg some (enc_one ht h.choose_spec.1 h.choose_spec.2.1).symm
theorem ofT_no {s:List UInt8} (h:¬ opaqueP s):ofT s=tData (bs s):=by unfold ofT;rw [dif_neg h]
theorem encD (s:ByteArray):enc (.mk 1 0 0 s [])=UInt8.ofNat 241 :: (q4 s.size++s.data.toList):=by
 simp [enc,head,mid,encs,size_len]
theorem encD_len (s:ByteArray):(enc (.mk 1 0 0 s [])).length=s.size+5:=by
 rw [encD]
 simp [q4_len,size_len]
 omega
open Classical in
noncomputable def bytF (t:Tm):Option (List UInt8):=if t.k=1 then (if opaqueP t.s.data.toList then none else some t.s.data.toList) else some (enc t)
theorem form_le {n:Int} {f:ByteArray} (h:f∈forms n):f.size≤13:=by
 have key:∀g∈forms n,g.size≤13:=by
  unfold forms
  repeat' refine ite_ok (P:=fun l:List ByteArray=>∀g∈l,g.size≤13) ?_ ?_
  all_goals decide
 exact key f h
theorem putFs_mem {x:Fld} {l:List Fld} (h:x∈l):(putF x).2.length≤(putFs l).length:=by
 induction l with
 | nil=>cases h
 | cons y l ih =>
  rw [putFs_cons,List.length_append]
  rcases List.mem_cons.1 h with rfl | h
  ·omega
  ·have:=ih h
   omega
end Go.Proofs.YtnhekaepgpbijaaGreatDoor
