/-
  The reference's Parse, taken apart: what stands behind its switch. Conditions: texts of moderate length.
-/
import Derived.Test.YtnhekaepgpbijaaGreatDoorJChnG
import Derived.Test.YtnhekaepgpbijaaGreatDoorJPut
import Derived.Deep.DeepCutAuto
import Derived.Deep.CutBlock
import Derived.Deep.RegionLaw
set_option linter.unusedVariables false
set_option linter.unusedSimpArgs false
set_option maxHeartbeats 40000000
set_option maxRecDepth 100000
namespace Go.Proofs.YtnhekaepgpbijaaGreatDoor
open Go.RowKit Go.ChangeShapes Go.WideShapes Go.Sort
def TxL (lo:Nat) (w:World) (v:Value) (ls:List (List UInt8)):Prop:=Strs lo w v (ls.map bs)
theorem TxL.txs {lo:Nat} {w:World} {v:Value} {ls:List (List UInt8)} (h:TxL lo w v ls):Txs w v ls:=Strs.mono h (Nat.zero_le _)
def Kq (s:ByteArray) (p:Nat) (w:World) (e:Ending) (w':World):Prop:=Below w.heap.size w w' ∧
  ((NoT (s.data.toList.drop p)∧e=.returned (.tuple #[.agg #[.int .i64 0,.int .i64 0,.int .i64 0,.string ⟨#[]⟩,.slice none 0 0],.int .i64 p,.bool false])) ∨
   ∃(t:Tm) (q:Nat) (A:Option Addr) (n c:Nat),good t∧p<q∧q≤s.size∧s.data.toList.drop p=enc t++s.data.toList.drop q∧TxL w.heap.size w' (.slice A n c) (t.l.map enc) ∧
     e=.returned (.tuple #[.agg #[.int .i64 t.k,.int .i64 t.a,.int .i64 t.b,.string t.s,.slice A n c],.int .i64 q,.bool true]))
theorem Kq.no {s:ByteArray} {p:Nat} {w w':World} (h:NoT (s.data.toList.drop p)) (hb:Below w.heap.size w w'):Kq s p w (.returned (.tuple #[.agg #[.int .i64 0,.int .i64 0,.int .i64 0,.string ⟨#[]⟩,.slice none 0 0],.int .i64 p,.bool false])) w' :=
 ⟨hb,.inl ⟨h,rfl⟩⟩
def Pre (s:ByteArray) (p:Nat) (w:World) (ve vi vm:Value) (wx:World):Prop :=
  Below w.heap.size w wx∧Blk wx w.heap.size 274 #[.int .i64 0,.int .i64 0,.int .i64 0,.string ⟨#[]⟩,.slice none 0 0] ∧
  ((∃(en m:Int),ve=.int .i64 en∧vi=.bool false∧vm=.int .i64 m∧NoT (s.data.toList.drop p)) ∨
   ∃(k a b:Nat) (s':ByteArray) (n q:Nat) (c:UInt8),ve=.int .i64 q∧vi=.bool true∧vm=.int .i64 n∧s.data.toList.drop p=c :: s.data.toList.drop (p+1)∧c.toNat=240+k∧k≤10∧Hed k a b s' n (s.data.toList.drop (p+1)) (s.data.toList.drop q)∧p<q∧q≤s.size∧s'.size≤131072∧(k=5→n≤8)∧(k=10→n≤32) ∧
     Blk wx (w.heap.size+1) 274 #[.int .i64 k,.int .i64 a,.int .i64 b,.string s',.slice none 0 0])
section
variable {s : ByteArray} {p : Nat} {w wx : World}
theorem Pre.no {en m:Int} (hb:Below w.heap.size w wx) (hz:Blk wx w.heap.size 274 #[.int .i64 0,.int .i64 0,.int .i64 0,.string ⟨#[]⟩,.slice none 0 0]) (h:NoT (s.data.toList.drop p)):Pre s p w (.int .i64 en) (.bool false) (.int .i64 m) wx :=
 ⟨hb,hz,.inl ⟨en,m,rfl,rfl,rfl,h⟩⟩
theorem Pre.yes {k a b n q:Nat} {s':ByteArray} {c:UInt8} (hb:Below w.heap.size w wx) (hz:Blk wx w.heap.size 274 #[.int .i64 0,.int .i64 0,.int .i64 0,.string ⟨#[]⟩,.slice none 0 0])
  (h1:s.data.toList.drop p=c :: s.data.toList.drop (p+1)) (h2:c.toNat=240+k) (h3:k≤10) (h4:Hed k a b s' n (s.data.toList.drop (p+1)) (s.data.toList.drop q)) (h5:p<q) (h6:q≤s.size) (h7:s'.size≤131072) (h8:k=5→n≤8) (h9:k=10→n≤32)
  (hx:Blk wx (w.heap.size+1) 274 #[.int .i64 k,.int .i64 a,.int .i64 b,.string s',.slice none 0 0]) {ve vm:Value} (e1:ve=.int .i64 q) (e2:vm=.int .i64 n):Pre s p w ve (.bool true) vm wx :=
 ⟨hb,hz,.inr ⟨k,a,b,s',n,q,c,e1,rfl,e2,h1,h2,h3,h4,h5,h6,h7,h8,h9,hx⟩⟩
end
theorem PU {w:World} {B i:Nat} {e:TypeId} {v:Value} {ls:List (List UInt8)} (h:w.ownsRow B e 1 v i ((ls.map bs).map Value.string)) (hi:i=ls.length):Txs w v ls:=by
 subst hi;rcases h.2 with ⟨rfl,h0⟩ | ⟨g,cap,cur,rfl,hb,hh,hnc,hx⟩
 ·have:ls=[]:=List.eq_nil_of_length_eq_zero h0
  subst this;exact Gq _ _
 ·have hr:=Reads.of_own h
  exact ⟨some ⟨g,0,none⟩,cap,by simp,by simpa using Sl.of_reads hr⟩
end Go.Proofs.YtnhekaepgpbijaaGreatDoor
