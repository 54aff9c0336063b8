/-
  The reference's Parse, taken apart: what stands behind its switch. Conditions: texts of moderate length.
-/
import Derived.Test.YtkfnepnghnicoaaGreatDoorKWholeAG
import Derived.Test.YtkfnepnghnicoaaGreatDoorKPut
import Derived.Deep.DeepCutAuto
import Derived.Deep.CutBlock
import Derived.Deep.RegionLaw
set_option linter.unusedVariables false
set_option linter.unusedSimpArgs false
set_option maxHeartbeats 40000000
set_option maxRecDepth 100000
namespace Go.Proofs.YtkfnepnghnicoaaGreatDoor
open Go.RowKit Go.ChangeShapes Go.WideShapes Go.Sort
def TxL (lo:Nat) (w:World) (v:Value) (ls:List (List UInt8)):Prop:=Strs lo w v (ls.map bs)
theorem TxL.txs {lo:Nat} {w:World} {v:Value} {ls:List (List UInt8)} (h:TxL lo w v ls):Txs w v ls:=Strs.mono h (Nat.zero_le _)
def Parsed (s:ByteArray) (p:Nat) (w:World) (e:Ending) (w':World):Prop:=Below w.heap.size w w' ∧
  ((NoT (s.data.toList.drop p)∧e=.returned (.tuple #[.agg #[.int .i64 0,.int .i64 0,.int .i64 0,.string ⟨#[]⟩,.slice none 0 0],.int .i64 p,.bool false])) ∨
   ∃(t:Tm) (q:Nat) (A:Option Addr) (n c:Nat),good t∧p<q∧q≤s.size∧s.data.toList.drop p=enc t++s.data.toList.drop q∧TxL w.heap.size w' (.slice A n c) (t.l.map enc) ∧
     e=.returned (.tuple #[.agg #[.int .i64 t.k,.int .i64 t.a,.int .i64 t.b,.string t.s,.slice A n c],.int .i64 q,.bool true]))
theorem Parsed.no {s:ByteArray} {p:Nat} {w w':World} (h:NoT (s.data.toList.drop p)) (hb:Below w.heap.size w w'):Parsed s p w (.returned (.tuple #[.agg #[.int .i64 0,.int .i64 0,.int .i64 0,.string ⟨#[]⟩,.slice none 0 0],.int .i64 p,.bool false])) w' :=
 ⟨hb,.inl ⟨h,rfl⟩⟩
def Pre (s:ByteArray) (p:Nat) (w:World) (ve vi vm:Value) (wx:World):Prop :=
  Below w.heap.size w wx∧Blk wx w.heap.size 178 #[.int .i64 0,.int .i64 0,.int .i64 0,.string ⟨#[]⟩,.slice none 0 0] ∧
  ((∃(en m:Int),ve=.int .i64 en∧vi=.bool false∧vm=.int .i64 m∧NoT (s.data.toList.drop p)) ∨
   ∃(k a b:Nat) (s':ByteArray) (n q:Nat) (c:UInt8),ve=.int .i64 q∧vi=.bool true∧vm=.int .i64 n∧s.data.toList.drop p=c :: s.data.toList.drop (p+1)∧c.toNat=240+k∧k≤10∧Hed k a b s' n (s.data.toList.drop (p+1)) (s.data.toList.drop q)∧p<q∧q≤s.size∧s'.size≤131072∧(k=5→n≤8)∧(k=10→n≤32) ∧
     Blk wx (w.heap.size+1) 178 #[.int .i64 k,.int .i64 a,.int .i64 b,.string s',.slice none 0 0])
section
variable {s : ByteArray} {p : Nat} {w wx : World}
theorem Pre.no {en m:Int} (hb:Below w.heap.size w wx) (hz:Blk wx w.heap.size 178 #[.int .i64 0,.int .i64 0,.int .i64 0,.string ⟨#[]⟩,.slice none 0 0]) (h:NoT (s.data.toList.drop p)):Pre s p w (.int .i64 en) (.bool false) (.int .i64 m) wx :=
 ⟨hb,hz,.inl ⟨en,m,rfl,rfl,rfl,h⟩⟩
theorem Pre.yes {k a b n q:Nat} {s':ByteArray} {c:UInt8} (hb:Below w.heap.size w wx) (hz:Blk wx w.heap.size 178 #[.int .i64 0,.int .i64 0,.int .i64 0,.string ⟨#[]⟩,.slice none 0 0])
  (h1:s.data.toList.drop p=c :: s.data.toList.drop (p+1)) (h2:c.toNat=240+k) (h3:k≤10) (h4:Hed k a b s' n (s.data.toList.drop (p+1)) (s.data.toList.drop q)) (h5:p<q) (h6:q≤s.size) (h7:s'.size≤131072) (h8:k=5→n≤8) (h9:k=10→n≤32)
  (hx:Blk wx (w.heap.size+1) 178 #[.int .i64 k,.int .i64 a,.int .i64 b,.string s',.slice none 0 0]) {ve vm:Value} (e1:ve=.int .i64 q) (e2:vm=.int .i64 n):Pre s p w ve (.bool true) vm wx :=
 ⟨hb,hz,.inr ⟨k,a,b,s',n,q,c,e1,rfl,e2,h1,h2,h3,h4,h5,h6,h7,h8,h9,hx⟩⟩
end
theorem bldS {x:Operand} {r:ByteArray} (o:Oper) (ho:o.op=.buildSlice 22 1 #[(0,x)]) (ρ:Operand→Value) (hρ:ρ x=.string r) (w:World) :
  (execOp ρ o).run Tryz.prog w=.ok (.value (.slice (some ⟨w.heap.size,0,none⟩) 1 1)) (w.alloc (.cells #[.string r] 9)):=by
 obtain ⟨d,op,t,p,af,gd⟩:=o
 simp only at ho
 subst ho
 go_simp
theorem stoS {x y:Operand} {g n c f:Nat} {A:Option Addr} {T:TypeId} {cs:Array Value} (o:Oper) (ho:o.op=.store 22 x y) (ρ:Operand→Value) (hρ:ρ x=.pointer (some ⟨g,f,none⟩)) (hρ2:ρ y=.slice A n c) (w:World) (hb:Blk w g T cs) (hc:f<cs.size):(execOp ρ o).run Tryz.prog w=.ok .skip (w.setCell ⟨g,f,none⟩ (.slice A n c)):=by
 obtain ⟨d,op,t,p,af,gd⟩:=o
 simp only at ho
 subst ho
 have cc:w.cell? ⟨g,f,none⟩=some cs[f]:=(hb.cell f).trans (Array.getElem?_eq_getElem hc)
 have cf:=hb.frozen f
 go_simp
theorem fldN4 {x:Operand} {g:Nat} (o:Oper) (ho:o.op=.fieldAddr 178 x 4) (ρ:Operand→Value) (hρ:ρ x=.pointer (some ⟨g,0,none⟩)) (w:World):(execOp ρ o).run Tryz.prog w=.ok (.value (.pointer (some ⟨g,4,none⟩))) w:=by
 obtain ⟨d,op,t,p,af,gd⟩:=o
 simp only at ho
 subst ho
 go_simp
theorem infoStr:(Tryz.prog.info? 9).map (fun i=>(i.zero,i.size,i.bytes))=some (some (.string ⟨#[]⟩),1,16):=by kernel_rfl
theorem outs_below {R:Nat→Prop} {B:Nat} {a b c:World} (h:Below B a b) (k:Outs R b c) (hR:∀i,R i→B≤i) (hB:B≤b.heap.size):Below B a c :=
 h.trans ⟨k.os,k.tape,k.output,k.size,fun i hi=>k.block i (by omega) (fun h2=>by have:=hR i h2;omega)⟩
theorem hw_n {k a b n:Nat} {s:ByteArray} (h:hw k a b s n):n<4294967296:=by
 unfold hw at h
 split at h <;> first | omega | exact h.elim
def Lp (s:ByteArray) (q n:Nat) (w:World) (k a b:Nat) (s':ByteArray) (i:Nat) (ve vs:Value) (wr:World):Prop :=
 (∃(l:List Tm) (q':Nat) (A:Option Addr) (c:Nat),ve=.int .i64 q'∧vs=.bool true∧goods l∧l.length=i∧s.data.toList.drop q=encs l++s.data.toList.drop q'∧q≤q'∧q'≤s.size ∧
  Blk wr (w.heap.size+1) 178 #[.int .i64 k,.int .i64 a,.int .i64 b,.string s',.slice A i c]∧wr.ownsRow w.heap.size 9 1 (.slice A i c) i (((l.map enc).map bs).map Value.string)) ∨
 (∃en:Int,ve=.int .i64 en∧vs=.bool false∧NoTs n (s.data.toList.drop q))
theorem own_txl {w:World} {B i:Nat} {e:TypeId} {v:Value} {ls:List (List UInt8)} (h:w.ownsRow B e 1 v i ((ls.map bs).map Value.string)) (hi:i=ls.length):TxL B w v ls:=by
 subst hi
 rcases h.2 with ⟨rfl,h0⟩ | ⟨g,cap,cur,rfl,hb,hh,hnc,hx⟩
 ·have:ls=[]:=List.eq_nil_of_length_eq_zero h0
  subst this
  exact ⟨none,0,rfl,Sl.nil_⟩
 ·have hr:=Reads.of_own h
  refine ⟨some ⟨g,0,none⟩,cap,by simp,by simp,fun hn=>?_⟩
  obtain ⟨ad,e,h1,h2⟩:=hr.2 (by simpa using hn)
  cases e
  exact ⟨_,rfl,hb,h1,h2⟩
theorem own_txs {w:World} {B i:Nat} {e:TypeId} {v:Value} {ls:List (List UInt8)} (h:w.ownsRow B e 1 v i ((ls.map bs).map Value.string)) (hi:i=ls.length):Txs w v ls:=by
 subst hi
 rcases h.2 with ⟨rfl,h0⟩ | ⟨g,cap,cur,rfl,hb,hh,hnc,hx⟩
 ·have:ls=[]:=List.eq_nil_of_length_eq_zero h0
  subst this
  exact txs_nil _ _
 ·have hr:=Reads.of_own h
  exact ⟨some ⟨g,0,none⟩,cap,by simp,by simpa using Sl.of_reads hr⟩
theorem mem_enc_len {t:Tm} {l:List Tm} (h:t∈l):(enc t).length≤(encs l).length:=by
 induction l with
 | nil=>simp at h
 | cons x l ih =>
  simp only [encs,List.length_append]
  rcases List.mem_cons.1 h with rfl | h
  ·omega
  ·have:=ih h
   omega
def sto5 (w:World) (g:Nat) (v0 v1 v2 v3 v4:Value):World:=((((w.setCell ⟨g,0,none⟩ v0).setCell ⟨g,1,none⟩ v1).setCell ⟨g,2,none⟩ v2).setCell ⟨g,3,none⟩ v3).setCell ⟨g,4,none⟩ v4
theorem sto5_blk {w:World} {g:Nat} {t:TypeId} {u0 u1 u2 u3 u4:Value} (h:Blk w g t #[u0,u1,u2,u3,u4]) (v0 v1 v2 v3 v4:Value):Blk (sto5 w g v0 v1 v2 v3 v4) g t #[v0,v1,v2,v3,v4]:=by
 have:=((((h.set_ 0 v0).set_ 1 v1).set_ 2 v2).set_ 3 v3).set_ 4 v4
 simpa [sto5] using this
theorem sto5_below {B:Nat} {w0 w:World} {g:Nat} (h:Below B w0 w) (hg:B≤g) (v0 v1 v2 v3 v4:Value):Below B w0 (sto5 w g v0 v1 v2 v3 v4) :=
 ((((h.setCell (p:=⟨g,0,none⟩) hg _).setCell (p:=⟨g,1,none⟩) hg _).setCell (p:=⟨g,2,none⟩) hg _).setCell (p:=⟨g,3,none⟩) hg _).setCell (p:=⟨g,4,none⟩) hg _
theorem own_sto5 {w W:World} {B i g:Nat} {e t:TypeId} {v:Value} {xs:List Value} {cs:Array Value} (h:w.ownsRow B e 1 v i xs) (hb:Blk w g t cs) (hne:e≠t) {v0 v1 v2 v3 v4:Value} (hW:W=sto5 w g v0 v1 v2 v3 v4):W.ownsRow B e 1 v i xs:=by
 rw [hW]
 have h0:=own_set_ h hb hne 0 v0
 have b0:=hb.set_ 0 v0
 have h1:=own_set_ h0 b0 hne 1 v1
 have b1:=b0.set_ 1 v1
 have h2:=own_set_ h1 b1 hne 2 v2
 have b2:=b1.set_ 2 v2
 have h3:=own_set_ h2 b2 hne 3 v3
 have b3:=b2.set_ 3 v3
 exact own_set_ h3 b3 hne 4 v4
theorem byte_int (c:UInt8):IntKind.i64.wrap (c.toNat:Int)=c.toNat:=by
 have:=c.toNat_lt
 rw [IntKind.wrap_i64]
 omega
theorem parse_step (s:ByteArray) (hs:s.size≤131072) (m:Nat) (ih:∀(p:Nat) (w:World),s.size - p≤m→p≤s.size→Calls Tryz.prog 159 #[.string s,.int .i64 p] w (Parsed s p w)) (p:Nat) (hp:p<s.size) (hm:s.size - p≤m+1) (w:World) :
  Calls Tryz.prog 159 #[.string s,.int .i64 p] w (Parsed s p w):=by
 have IH:=hide ih
 clear ih
 have hpi:(p:Int)<s.size:=by omega
 have hp0:(0:Int)≤p:=by omega
 have hsl:s.data.toList.length=s.size:=rfl
 have hcons:=drop_cons (s:=s.data.toList) (p:=p) (by omega)
 have hget:s.data.toList[p]'(by omega)=s[p]:=rfl
 rw [hget] at hcons
 have HC:=hide hcons
 have hclt:=s[p].toNat_lt
 have hl1:(s.data.toList.drop (p+1)).length=s.size - (p+1):=by rw [List.length_drop,hsl]
 have Hl1:=hide hl1
 have HDD:=hide (fun j:Nat=>List.drop_drop (i:=j) (j:=p+1) (l:=s.data.toList))
 clear hcons hget hsl hl1
 go_enter Tryz.func159,Tryz.ntmps159
 go_upto_block 0 with (fail)
 obtain ⟨wx,hwx⟩:∃wx,wx=(w.alloc (.cells #[.int .i64 0,.int .i64 0,.int .i64 0,.string ⟨#[]⟩,.slice none 0 0] 178)).alloc (.cells #[.int .i64 ((s[p].toNat:Int) - 240),.int .i64 0,.int .i64 0,.string ⟨#[]⟩,.slice none 0 0] 178):=⟨_,rfl⟩
 rw [←hwx]
 have hb:Below w.heap.size w wx:=by
  rw [hwx]
  exact ((Below.refl _ _).alloc (Nat.le_refl _) _).alloc (by simp) _
 have hz:Blk wx w.heap.size 178 #[.int .i64 0,.int .i64 0,.int .i64 0,.string ⟨#[]⟩,.slice none 0 0]:=by
  rw [hwx]
  exact (Blk.new w _ _).alloc _
 have hx0:Blk wx (w.heap.size+1) 178 #[.int .i64 ((s[p].toNat:Int) - 240),.int .i64 0,.int .i64 0,.string ⟨#[]⟩,.slice none 0 0]:=by
  rw [hwx]
  have:=Blk.new (w.alloc (.cells #[.int .i64 0,.int .i64 0,.int .i64 0,.string ⟨#[]⟩,.slice none 0 0] 178)) 178 #[.int .i64 ((s[p].toNat:Int) - 240),.int .i64 0,.int .i64 0,.string ⟨#[]⟩,.slice none 0 0]
  simpa using this
 clear hwx
 obtain ⟨c,hc⟩:∃c,c=s[p]:=⟨_,rfl⟩
 rw [←hc] at hx0 hclt HC ⊢
 clear hc
 obtain ⟨kk,hkd⟩:∃kk:Int,kk=(c.toNat:Int) - 240:=⟨_,rfl⟩
 rw [←hkd] at hx0 ⊢
 have Hkd:=hide hkd
 clear hkd
 go_cut [8,9,10] (fun ve vi vm wy=>Pre s p w ve vi vm wy)
 case first =>
  as_aux_lemma =>
  by_cases hkk:241≤c.toNat∧c.toNat≤250
  ·obtain ⟨k,hk⟩:∃k:Nat,c.toNat=240+k:=⟨c.toNat - 240,by omega⟩
   have Hk:=hide hk
   have hki:kk=k:=by rw [Hkd.out];omega
   subst hki
   have hx:=hx0
   have hk10:1≤k∧k≤10:=by omega
   clear hk hkk hclt hx0 Hkd
   obtain rfl | rfl | rfl | rfl | rfl | rfl | rfl | rfl | rfl | rfl:k=1∨k=2∨k=3∨k=4∨k=5∨k=6∨k=7∨k=8∨k=9∨k=10:=by omega
   --KINDS
   ·obtain ⟨n,hn⟩:∃n,n=n4 (s.data.toList.drop (p+1)):=⟨_,rfl⟩
    by_cases hh:p+1+4≤s.size∧p+1+4+n≤s.size
    ·have HT:=hide (fun W=>rTxt_yes' s (p+1) ((p:Int)+1) (by omega) W (by omega) (by omega) hh.1 hn hh.2 ((p:Int)+1+4+n) (by omega) rfl)
     have HH:=hide (hed1 (s1:=s.data.toList.drop (p+1)) (by rw [Hl1.out];omega) (by rw [Hl1.out,← hn];omega))
     rw [HDD.out,HDD.out,← hn] at HH
     change Hid (Hed 1 0 0 (bs ((s.data.toList.drop (p+1+4)).take n)) 0 _ _) at HH
     have Htl:=hide (show (bs ((s.data.toList.drop (p+1+4)).take n)).size≤131072 by rw [bs_size,List.length_take,List.length_drop];have:s.data.toList.length=s.size:=rfl;omega)
     generalize bs ((s.data.toList.drop (p+1+4)).take n)=t at HT HH Htl
     have Hn:=hide hn
     clear hn
     go_wp2_with (go_at_call 228;refine (HT.out _).mono ?_;rintro e w1 ⟨rfl,hb1⟩;have hx1:=hx.below hb1 hx.lt;have hz1:=hz.below hb1 hz.lt;have q3:w1.cell? ⟨w.heap.size+1,3,none⟩=some (.string ⟨#[]⟩):=hx1.cell 3;have f3:=hx1.frozen 3)
     go_meet
     exact Pre.yes (by exact bel_by) (hz1.far (by simp) _) HC.out Hk.out (by omega) HH.out (by omega) (by omega) Htl.out (by omega) (by omega) (by simpa [eB] using hx1.set_ 3 (.string t)) (by first | rfl | (congr 1;done) | (congr 1;omega)) rfl
    ·have HT:=hide (fun W=>rTxt_no' s (p+1) ((p:Int)+1) (by omega) W (by omega) (by omega) (by rw [←hn];omega))
     have HN:=hide (no1 (c:=c) (s1:=s.data.toList.drop (p+1)) Hk.out (by rw [Hl1.out,← hn];omega))
     rw [←HC.out] at HN
     clear hn
     go_wp2_with (go_at_call 228;refine (HT.out _).mono ?_;rintro e w1 ⟨rfl,hb1⟩;have hx1:=hx.below hb1 hx.lt;have hz1:=hz.below hb1 hz.lt;have q3:w1.cell? ⟨w.heap.size+1,3,none⟩=some (.string ⟨#[]⟩):=hx1.cell 3;have f3:=hx1.frozen 3)
     go_meet
     exact Pre.no (by exact bel_by) (hz1.far (by simp) _) HN.out
   ·by_cases h4:p+1+4≤s.size
    ·obtain ⟨n,hn⟩:∃n,n=n4 (s.data.toList.drop (p+1)):=⟨_,rfl⟩
     have HA:=hide (fun W=>rNum_yes' s (p+1) ((p:Int)+1) (by omega) W (by omega) (by omega) h4 hn)
     by_cases h8:p+1+8≤s.size
     ·obtain ⟨m,hm⟩:∃m,m=n4 (s.data.toList.drop (p+1+4)):=⟨_,rfl⟩
      have HB:=hide (fun W=>rNum_yes' s (p+1+4) ((p:Int)+1+4) (by omega) W (by omega) (by omega) (by omega) hm)
      have HH:=hide (hed2 (s1:=s.data.toList.drop (p+1)) (by rw [Hl1.out];omega))
      rw [HDD.out,HDD.out,← hn,← hm] at HH
      clear hn hm
      go_wp2_with (first | (go_at_call 229;(with_reducible refine (HA.out _).mono ?_);rintro e w1 ⟨rfl,hb1⟩;have hx1:=hx.below hb1 hx.lt;have hz1:=hz.below hb1 hz.lt;have q1:w1.cell? ⟨w.heap.size+1,1,none⟩=some (.int .i64 0):=hx1.cell 1;have f1:=hx1.frozen 1) | (go_at_call 229;(with_reducible refine (HB.out _).mono ?_);rintro e w2 ⟨rfl,hb2⟩;have hx2:=(hx1.set_ 1 (.int .i64 n)).below hb2 (by have:=hx1.lt;simpa using this);have hz2:=(hz1.far (p:=⟨w.heap.size+1,1,none⟩) (by simp) (.int .i64 n)).below hb2 (by have:=hz1.lt;simpa using this);simp only [List.setIfInBounds_toArray,List.set_cons_zero,List.set_cons_succ] at hx2;have q2:w2.cell? ⟨w.heap.size+1,2,none⟩=some (.int .i64 0):=hx2.cell 2;have f2:=hx2.frozen 2))
      go_meet
      exact Pre.yes (by exact bel_by) (hz2.far (by simp) _) HC.out Hk.out (by omega) HH.out (by omega) (by omega) (Nat.zero_le _) (by omega) (by omega) (by simpa [eB] using hx2.set_ 2 (.int .i64 m)) (by first | rfl | (congr 1;done) | (congr 1;omega)) rfl
     ·have HB:=hide (fun W=>rNum_no' s (p+1+4) ((p:Int)+1+4) (by omega) W (by omega) (by omega) (by omega))
      have HN:=hide (no2 (c:=c) (s1:=s.data.toList.drop (p+1)) Hk.out (by rw [Hl1.out];omega))
      rw [←HC.out] at HN
      clear hn
      go_wp2_with (first | (go_at_call 229;(with_reducible refine (HA.out _).mono ?_);rintro e w1 ⟨rfl,hb1⟩;have hx1:=hx.below hb1 hx.lt;have hz1:=hz.below hb1 hz.lt;have q1:w1.cell? ⟨w.heap.size+1,1,none⟩=some (.int .i64 0):=hx1.cell 1;have f1:=hx1.frozen 1) | (go_at_call 229;(with_reducible refine (HB.out _).mono ?_);rintro e w2 ⟨rfl,hb2⟩;have hx2:=(hx1.set_ 1 (.int .i64 n)).below hb2 (by have:=hx1.lt;simpa using this);have hz2:=(hz1.far (p:=⟨w.heap.size+1,1,none⟩) (by simp) (.int .i64 n)).below hb2 (by have:=hz1.lt;simpa using this);simp only [List.setIfInBounds_toArray,List.set_cons_zero,List.set_cons_succ] at hx2;have q2:w2.cell? ⟨w.heap.size+1,2,none⟩=some (.int .i64 0):=hx2.cell 2;have f2:=hx2.frozen 2))
      go_meet
      exact Pre.no (by exact bel_by) (hz2.far (by simp) _) HN.out
    ·have HA:=hide (fun W=>rNum_no' s (p+1) ((p:Int)+1) (by omega) W (by omega) (by omega) (by omega))
     have HN:=hide (no2 (c:=c) (s1:=s.data.toList.drop (p+1)) Hk.out (by rw [Hl1.out];omega))
     rw [←HC.out] at HN
     go_wp2_with (go_at_call 229;(with_reducible refine (HA.out _).mono ?_);rintro e w1 ⟨rfl,hb1⟩;have hx1:=hx.below hb1 hx.lt;have hz1:=hz.below hb1 hz.lt;have q1:w1.cell? ⟨w.heap.size+1,1,none⟩=some (.int .i64 0):=hx1.cell 1;have f1:=hx1.frozen 1)
     go_meet
     exact Pre.no (by exact bel_by) (hz1.far (by simp) _) HN.out
   ·by_cases h4:p+1+4≤s.size
    ·obtain ⟨n,hn⟩:∃n,n=n4 (s.data.toList.drop (p+1)):=⟨_,rfl⟩
     have HA:=hide (fun W=>rNum_yes' s (p+1) ((p:Int)+1) (by omega) W (by omega) (by omega) h4 hn)
     have HH:=hide (hed3 (s1:=s.data.toList.drop (p+1)) (by rw [Hl1.out];omega))
     rw [HDD.out,← hn] at HH
     clear hn
     go_wp2_with (go_at_call 229;(with_reducible refine (HA.out _).mono ?_);rintro e w1 ⟨rfl,hb1⟩;have hx1:=hx.below hb1 hx.lt;have hz1:=hz.below hb1 hz.lt;have q1:w1.cell? ⟨w.heap.size+1,1,none⟩=some (.int .i64 0):=hx1.cell 1;have f1:=hx1.frozen 1)
     go_meet
     exact Pre.yes (by exact bel_by) (hz1.far (by simp) _) HC.out Hk.out (by omega) HH.out (by omega) (by omega) (Nat.zero_le _) (by omega) (by omega) (by simpa [eB] using hx1.set_ 1 (.int .i64 n)) (by first | rfl | (congr 1;done) | (congr 1;omega)) rfl
    ·have HA:=hide (fun W=>rNum_no' s (p+1) ((p:Int)+1) (by omega) W (by omega) (by omega) (by omega))
     have HN:=hide (no3 (c:=c) (s1:=s.data.toList.drop (p+1)) Hk.out (by rw [Hl1.out];omega))
     rw [←HC.out] at HN
     go_wp2_with (go_at_call 229;(with_reducible refine (HA.out _).mono ?_);rintro e w1 ⟨rfl,hb1⟩;have hx1:=hx.below hb1 hx.lt;have hz1:=hz.below hb1 hz.lt;have q1:w1.cell? ⟨w.heap.size+1,1,none⟩=some (.int .i64 0):=hx1.cell 1;have f1:=hx1.frozen 1)
     go_meet
     exact Pre.no (by exact bel_by) (hz1.far (by simp) _) HN.out
   ·have HH:=hide (hed4 (s1:=s.data.toList.drop (p+1)))
    go_wp2_with fail
    go_meet
    exact Pre.yes (by exact bel_by) hz HC.out Hk.out (by omega) HH.out (by omega) (by omega) (Nat.zero_le _) (by omega) (by omega) hx (by first | rfl | (congr 1;done) | (congr 1;omega)) rfl
   ·obtain ⟨n,hn⟩:∃n,n=n4 (s.data.toList.drop (p+1)):=⟨_,rfl⟩
    by_cases hh:p+1+4≤s.size∧p+1+4+n≤s.size
    ·have HT:=hide (fun W=>rTxt_yes' s (p+1) ((p:Int)+1) (by omega) W (by omega) (by omega) hh.1 hn hh.2 ((p:Int)+1+4+n) (by omega) rfl)
     have Htl:=hide (show (bs ((s.data.toList.drop (p+1+4)).take n)).size≤131072 by rw [bs_size,List.length_take,List.length_drop];have:s.data.toList.length=s.size:=rfl;omega)
     by_cases h8:p+1+4+n+4≤s.size
     ·obtain ⟨m,hm⟩:∃m,m=n4 (s.data.toList.drop (p+1+4+n)):=⟨_,rfl⟩
      have HB:=hide (fun W=>rNum_yes' s (p+1+4+n) ((p:Int)+1+4+n) (by omega) W (by omega) (by omega) h8 hm)
      have HH:=hide (hed5 (s1:=s.data.toList.drop (p+1)) (by rw [Hl1.out];omega) (by rw [Hl1.out,← hn];omega))
      rw [HDD.out,HDD.out,HDD.out,← hn,show p+1+(4+n)=p+1+4+n by omega,← hm,show p+1+(8+n)=p+1+4+n+4 by omega] at HH
      change Hid (Hed 5 0 0 (bs ((s.data.toList.drop (p+1+4)).take n)) m _ _) at HH
      generalize bs ((s.data.toList.drop (p+1+4)).take n)=t at HT HH Htl
      clear hn hm
      by_cases hm8:m≤8
      ·have hmi:(m:Int)≤8:=by omega
       go_wp2_with (first | (go_at_call 228;refine (HT.out _).mono ?_;rintro e w1 ⟨rfl,hb1⟩;have hx1:=hx.below hb1 hx.lt;have hz1:=hz.below hb1 hz.lt;have q3:w1.cell? ⟨w.heap.size+1,3,none⟩=some (.string ⟨#[]⟩):=hx1.cell 3;have f3:=hx1.frozen 3) | (go_at_call 229;(with_reducible refine (HB.out _).mono ?_);rintro e w2 ⟨rfl,hb2⟩;have hx2:=(hx1.set_ 3 (.string t)).below hb2 (by have:=hx1.lt;simpa using this);have hz2:=(hz1.far (p:=⟨w.heap.size+1,3,none⟩) (by simp) (.string t)).below hb2 (by have:=hz1.lt;simpa using this);simp only [List.setIfInBounds_toArray,List.set_cons_zero,List.set_cons_succ] at hx2))
       go_meet
       exact Pre.yes (by exact bel_by) hz2 HC.out Hk.out (by omega) HH.out (by omega) (by omega) Htl.out (by omega) (by omega) hx2 (by first | rfl | (congr 1;done) | (congr 1;omega)) rfl
      ·have hmi:decide ((m:Int)≤8)=false:=decide_eq_false (by omega)
       have HN:=hide (HH.out.nohd (c:=c) Hk.out (fun h=>hm8 h.2.2.1))
       rw [←HC.out] at HN
       go_wp2_with (first | (go_at_call 228;refine (HT.out _).mono ?_;rintro e w1 ⟨rfl,hb1⟩;have hx1:=hx.below hb1 hx.lt;have hz1:=hz.below hb1 hz.lt;have q3:w1.cell? ⟨w.heap.size+1,3,none⟩=some (.string ⟨#[]⟩):=hx1.cell 3;have f3:=hx1.frozen 3) | (go_at_call 229;(with_reducible refine (HB.out _).mono ?_);rintro e w2 ⟨rfl,hb2⟩;have hx2:=(hx1.set_ 3 (.string t)).below hb2 (by have:=hx1.lt;simpa using this);have hz2:=(hz1.far (p:=⟨w.heap.size+1,3,none⟩) (by simp) (.string t)).below hb2 (by have:=hz1.lt;simpa using this);simp only [List.setIfInBounds_toArray,List.set_cons_zero,List.set_cons_succ] at hx2))
       go_meet
       exact Pre.no (by exact bel_by) hz2 HN.out
     ·have HB:=hide (fun W=>rNum_no' s (p+1+4+n) ((p:Int)+1+4+n) (by omega) W (by omega) (by omega) (by omega))
      have HN:=hide (no5b (c:=c) (s1:=s.data.toList.drop (p+1)) Hk.out (by rw [Hl1.out];omega) (by rw [Hl1.out,← hn];omega))
      rw [←HC.out] at HN
      generalize bs ((s.data.toList.drop (p+1+4)).take n)=t at HT Htl
      clear hn
      go_wp2_with (first | (go_at_call 228;refine (HT.out _).mono ?_;rintro e w1 ⟨rfl,hb1⟩;have hx1:=hx.below hb1 hx.lt;have hz1:=hz.below hb1 hz.lt;have q3:w1.cell? ⟨w.heap.size+1,3,none⟩=some (.string ⟨#[]⟩):=hx1.cell 3;have f3:=hx1.frozen 3) | (go_at_call 229;(with_reducible refine (HB.out _).mono ?_);rintro e w2 ⟨rfl,hb2⟩;have hx2:=(hx1.set_ 3 (.string t)).below hb2 (by have:=hx1.lt;simpa using this);have hz2:=(hz1.far (p:=⟨w.heap.size+1,3,none⟩) (by simp) (.string t)).below hb2 (by have:=hz1.lt;simpa using this);simp only [List.setIfInBounds_toArray,List.set_cons_zero,List.set_cons_succ] at hx2))
      go_meet
      exact Pre.no (by exact bel_by) hz2 HN.out
    ·have HT:=hide (fun W=>rTxt_no' s (p+1) ((p:Int)+1) (by omega) W (by omega) (by omega) (by rw [←hn];omega))
     have HN:=hide (no5 (c:=c) (s1:=s.data.toList.drop (p+1)) Hk.out (by rw [Hl1.out,← hn];omega))
     rw [←HC.out] at HN
     clear hn
     go_wp2_with (go_at_call 228;refine (HT.out _).mono ?_;rintro e w1 ⟨rfl,hb1⟩;have hx1:=hx.below hb1 hx.lt;have hz1:=hz.below hb1 hz.lt;have q3:w1.cell? ⟨w.heap.size+1,3,none⟩=some (.string ⟨#[]⟩):=hx1.cell 3;have f3:=hx1.frozen 3)
     go_meet
     exact Pre.no (by exact bel_by) (hz1.far (by simp) _) HN.out
   ·obtain ⟨n,hn⟩:∃n,n=n4 (s.data.toList.drop (p+1)):=⟨_,rfl⟩
    by_cases hh:p+1+4≤s.size∧p+1+4+n≤s.size
    ·have HT:=hide (fun W=>rTxt_yes' s (p+1) ((p:Int)+1) (by omega) W (by omega) (by omega) hh.1 hn hh.2 ((p:Int)+1+4+n) (by omega) rfl)
     have HH:=hide (hed6 (s1:=s.data.toList.drop (p+1)) (by rw [Hl1.out];omega) (by rw [Hl1.out,← hn];omega))
     rw [HDD.out,HDD.out,← hn] at HH
     change Hid (Hed 6 0 0 (bs ((s.data.toList.drop (p+1+4)).take n)) 2 _ _) at HH
     have Htl:=hide (show (bs ((s.data.toList.drop (p+1+4)).take n)).size≤131072 by rw [bs_size,List.length_take,List.length_drop];have:s.data.toList.length=s.size:=rfl;omega)
     generalize bs ((s.data.toList.drop (p+1+4)).take n)=t at HT HH Htl
     have Hn:=hide hn
     clear hn
     go_wp2_with (go_at_call 228;refine (HT.out _).mono ?_;rintro e w1 ⟨rfl,hb1⟩;have hx1:=hx.below hb1 hx.lt;have hz1:=hz.below hb1 hz.lt;have q3:w1.cell? ⟨w.heap.size+1,3,none⟩=some (.string ⟨#[]⟩):=hx1.cell 3;have f3:=hx1.frozen 3)
     go_meet
     exact Pre.yes (by exact bel_by) (hz1.far (by simp) _) HC.out Hk.out (by omega) HH.out (by omega) (by omega) Htl.out (by omega) (by omega) (by simpa [eB] using hx1.set_ 3 (.string t)) (by first | rfl | (congr 1;done) | (congr 1;omega)) rfl
    ·have HT:=hide (fun W=>rTxt_no' s (p+1) ((p:Int)+1) (by omega) W (by omega) (by omega) (by rw [←hn];omega))
     have HN:=hide (no6 (c:=c) (s1:=s.data.toList.drop (p+1)) Hk.out (by rw [Hl1.out,← hn];omega))
     rw [←HC.out] at HN
     clear hn
     go_wp2_with (go_at_call 228;refine (HT.out _).mono ?_;rintro e w1 ⟨rfl,hb1⟩;have hx1:=hx.below hb1 hx.lt;have hz1:=hz.below hb1 hz.lt;have q3:w1.cell? ⟨w.heap.size+1,3,none⟩=some (.string ⟨#[]⟩):=hx1.cell 3;have f3:=hx1.frozen 3)
     go_meet
     exact Pre.no (by exact bel_by) (hz1.far (by simp) _) HN.out
   ·have HH:=hide (hed7 (s1:=s.data.toList.drop (p+1)))
    go_wp2_with fail
    go_meet
    exact Pre.yes (by exact bel_by) hz HC.out Hk.out (by omega) HH.out (by omega) (by omega) (Nat.zero_le _) (by omega) (by omega) hx (by first | rfl | (congr 1;done) | (congr 1;omega)) rfl
   ·by_cases h2:p+1<s.size
    ·have h2i:(p:Int)+1<s.size:=by omega
     have hc2:=drop_cons (s:=s.data.toList) (p:=p+1) h2
     have hg2:s.data.toList[p+1]'(by exact h2)=s[p+1]:=rfl
     rw [hg2] at hc2
     have HH:Hid (Hed 8 0 s[p+1].toNat eB 3 (s.data.toList.drop (p+1)) (s.data.toList.drop (p+2))):=by
      rw [hc2]
      exact hed8
     have e0:((p:Int)+1).toNat=p+1:=by omega
     have hbt:=byte_int s[p+1]
     have p1:(0:Int)≤(p:Int)+1:=by omega
     have q2:wx.cell? ⟨w.heap.size+1,2,none⟩=some (.int .i64 0):=hx.cell 2
     have f2:=hx.frozen 2
     clear hc2 hg2
     go_wp2_with fail
     go_meet
     exact Pre.yes (by exact bel_by) (hz.far (by simp) _) HC.out Hk.out (by omega) HH.out (by omega) (by omega) (Nat.zero_le _) (by omega) (by omega) (by simpa [eB] using hx.set_ 2 (.int .i64 s[p+1].toNat)) (by first | rfl | (congr 1;done) | (congr 1;omega)) rfl
    ·have h2i:¬ (p:Int)+1<s.size:=by omega
     have HN:=hide (no8 (c:=c) (s1:=s.data.toList.drop (p+1)) Hk.out (List.eq_nil_of_length_eq_zero (by rw [Hl1.out];omega)))
     rw [←HC.out] at HN
     go_wp2_with fail
     go_meet
     exact Pre.no (by exact bel_by) hz HN.out
   ·by_cases h4:p+1+4≤s.size
    ·obtain ⟨n,hn⟩:∃n,n=n4 (s.data.toList.drop (p+1)):=⟨_,rfl⟩
     have HA:=hide (fun W=>rNum_yes' s (p+1) ((p:Int)+1) (by omega) W (by omega) (by omega) h4 hn)
     have HH:=hide (hed9 (s1:=s.data.toList.drop (p+1)) (by rw [Hl1.out];omega))
     rw [HDD.out,← hn] at HH
     clear hn
     go_wp2_with (go_at_call 229;(with_reducible refine (HA.out _).mono ?_);rintro e w1 ⟨rfl,hb1⟩;have hx1:=hx.below hb1 hx.lt;have hz1:=hz.below hb1 hz.lt;have q2:w1.cell? ⟨w.heap.size+1,2,none⟩=some (.int .i64 0):=hx1.cell 2;have f2:=hx1.frozen 2)
     go_meet
     exact Pre.yes (by exact bel_by) (hz1.far (by simp) _) HC.out Hk.out (by omega) HH.out (by omega) (by omega) (Nat.zero_le _) (by omega) (by omega) (by simpa [eB] using hx1.set_ 2 (.int .i64 n)) (by first | rfl | (congr 1;done) | (congr 1;omega)) rfl
    ·have HA:=hide (fun W=>rNum_no' s (p+1) ((p:Int)+1) (by omega) W (by omega) (by omega) (by omega))
     have HN:=hide (no9 (c:=c) (s1:=s.data.toList.drop (p+1)) Hk.out (by rw [Hl1.out];omega))
     rw [←HC.out] at HN
     go_wp2_with (go_at_call 229;(with_reducible refine (HA.out _).mono ?_);rintro e w1 ⟨rfl,hb1⟩;have hx1:=hx.below hb1 hx.lt;have hz1:=hz.below hb1 hz.lt;have q2:w1.cell? ⟨w.heap.size+1,2,none⟩=some (.int .i64 0):=hx1.cell 2;have f2:=hx1.frozen 2)
     go_meet
     exact Pre.no (by exact bel_by) (hz1.far (by simp) _) HN.out
   ·by_cases h4:p+1+4≤s.size
    ·obtain ⟨n,hn⟩:∃n,n=n4 (s.data.toList.drop (p+1)):=⟨_,rfl⟩
     have HA:=hide (fun W=>rNum_yes' s (p+1) ((p:Int)+1) (by omega) W (by omega) (by omega) h4 hn)
     have HH:=hide (hed10 (s1:=s.data.toList.drop (p+1)) (by rw [Hl1.out];omega))
     rw [HDD.out,← hn] at HH
     clear hn
     by_cases hm8:n≤32
     ·have hmi:(n:Int)≤32:=by omega
      go_wp2_with (go_at_call 229;(with_reducible refine (HA.out _).mono ?_);rintro e w1 ⟨rfl,hb1⟩;have hx1:=hx.below hb1 hx.lt;have hz1:=hz.below hb1 hz.lt)
      go_meet
      exact Pre.yes (by exact bel_by) hz1 HC.out Hk.out (by omega) HH.out (by omega) (by omega) (Nat.zero_le _) (by omega) (by omega) hx1 (by first | rfl | (congr 1;done) | (congr 1;omega)) rfl
     ·have hmi:decide ((n:Int)≤32)=false:=decide_eq_false (by omega)
      have HN:=hide (HH.out.nohd (c:=c) Hk.out (fun h=>hm8 h.2.2.1))
      rw [←HC.out] at HN
      go_wp2_with (go_at_call 229;(with_reducible refine (HA.out _).mono ?_);rintro e w1 ⟨rfl,hb1⟩;have hx1:=hx.below hb1 hx.lt;have hz1:=hz.below hb1 hz.lt)
      go_meet
      exact Pre.no (by exact bel_by) hz1 HN.out
    ·have HA:=hide (fun W=>rNum_no' s (p+1) ((p:Int)+1) (by omega) W (by omega) (by omega) (by omega))
     have HN:=hide (no10 (c:=c) (s1:=s.data.toList.drop (p+1)) Hk.out (by rw [Hl1.out];omega))
     rw [←HC.out] at HN
     go_wp2_with (go_at_call 229;(with_reducible refine (HA.out _).mono ?_);rintro e w1 ⟨rfl,hb1⟩;have hx1:=hx.below hb1 hx.lt;have hz1:=hz.below hb1 hz.lt)
     go_meet
     exact Pre.no (by exact bel_by) hz1 HN.out
   --ENDKINDS
  ·have HN:=hide (show NoT (s.data.toList.drop p) by rw [HC.out];exact noT_tag (by omega))
   have hkd:=Hkd.out
   have t1:(kk == 1)=false:=beq_eq_false_iff_ne.2 (by omega)
   have t2:(kk == 2)=false:=beq_eq_false_iff_ne.2 (by omega)
   have t3:(kk == 3)=false:=beq_eq_false_iff_ne.2 (by omega)
   have t4:(kk == 4)=false:=beq_eq_false_iff_ne.2 (by omega)
   have t5:(kk == 5)=false:=beq_eq_false_iff_ne.2 (by omega)
   have t6:(kk == 6)=false:=beq_eq_false_iff_ne.2 (by omega)
   have t7:(kk == 7)=false:=beq_eq_false_iff_ne.2 (by omega)
   have t8:(kk == 8)=false:=beq_eq_false_iff_ne.2 (by omega)
   have t9:(kk == 9)=false:=beq_eq_false_iff_ne.2 (by omega)
   have t10:(kk == 10)=false:=beq_eq_false_iff_ne.2 (by omega)
   clear hkd hkk
   go_wp2_with fail
   go_meet
   exact Pre.no (by exact bel_by) hz HN.out
 case rest =>
  as_aux_lemma =>
  obtain ⟨wy,rfl⟩:∃wy:World,wy=wc:=⟨wc,rfl⟩
  obtain ⟨hbw,hzw,hcs⟩:=hcut
  clear hb hz hx0
  rcases hcs with ⟨en,mm,rfl,rfl,rfl,hno⟩ | ⟨k,a,b,s',n,q,c',rfl,rfl,rfl,h1,h2,h3,h4,h5,h6,h7,h8,h9,hxb⟩
  ·have Hno:=hide hno
   have z0:wy.cell? ⟨w.heap.size,0,none⟩=some (.int .i64 0):=hzw.cell 0
   have z1:wy.cell? ⟨w.heap.size,1,none⟩=some (.int .i64 0):=hzw.cell 1
   have z2:wy.cell? ⟨w.heap.size,2,none⟩=some (.int .i64 0):=hzw.cell 2
   have z3:wy.cell? ⟨w.heap.size,3,none⟩=some (.string ⟨#[]⟩):=hzw.cell 3
   have z4:wy.cell? ⟨w.heap.size,4,none⟩=some (.slice none 0 0):=hzw.cell 4
   have zf0:=hzw.frozen 0
   have zf1:=hzw.frozen 1
   have zf2:=hzw.frozen 2
   have zf3:=hzw.frozen 3
   have zf4:=hzw.frozen 4
   clear hno
   by_cases hmm:0<mm
   ·go_wp2_with fail
    refine wp_loop_rounds 1 ?_
    rw [rounds_succ]
    go_wp2_with fail
    obtain ⟨W,hW⟩:∃W,W=sto5 wy w.heap.size (.int .i64 0) (.int .i64 0) (.int .i64 0) (.string ⟨#[]⟩) (.slice none 0 0):=⟨_,rfl⟩
    change bodyPost _ _ _ _ _ (sto5 wy w.heap.size (.int .i64 0) (.int .i64 0) (.int .i64 0) (.string ⟨#[]⟩) (.slice none 0 0))
    rw [←hW]
    have hBW:Blk W w.heap.size 178 #[.int .i64 0,.int .i64 0,.int .i64 0,.string ⟨#[]⟩,.slice none 0 0]:=by rw [hW];exact sto5_blk hzw _ _ _ _ _
    have hbW:Below w.heap.size w W:=by rw [hW];exact sto5_below hbw (Nat.le_refl _) _ _ _ _ _
    have r0:W.cell? ⟨w.heap.size,0,none⟩=some (.int .i64 0):=hBW.cell 0
    have r1:W.cell? ⟨w.heap.size,1,none⟩=some (.int .i64 0):=hBW.cell 1
    have r2:W.cell? ⟨w.heap.size,2,none⟩=some (.int .i64 0):=hBW.cell 2
    have r3:W.cell? ⟨w.heap.size,3,none⟩=some (.string ⟨#[]⟩):=hBW.cell 3
    have r4:W.cell? ⟨w.heap.size,4,none⟩=some (.slice none 0 0):=hBW.cell 4
    clear hW z0 z1 z2 z3 z4 zf0 zf1 zf2 zf3 zf4 hzw
    exact bodyPost_ret (v:=.tuple #[.agg #[.int .i64 0,.int .i64 0,.int .i64 0,.string ⟨#[]⟩,.slice none 0 0],.int .i64 p,.bool false]) (by simp [results,Tryz.results159,go_sem,r0,r1,r2,r3,r4]) rfl (Parsed.no Hno.out hbW)
   ·go_wp2_with fail
    refine wp_loop_rounds 1 ?_
    rw [rounds_succ]
    go_wp2_with fail
    obtain ⟨W,hW⟩:∃W,W=sto5 wy w.heap.size (.int .i64 0) (.int .i64 0) (.int .i64 0) (.string ⟨#[]⟩) (.slice none 0 0):=⟨_,rfl⟩
    change bodyPost _ _ _ _ _ (sto5 wy w.heap.size (.int .i64 0) (.int .i64 0) (.int .i64 0) (.string ⟨#[]⟩) (.slice none 0 0))
    rw [←hW]
    have hBW:Blk W w.heap.size 178 #[.int .i64 0,.int .i64 0,.int .i64 0,.string ⟨#[]⟩,.slice none 0 0]:=by rw [hW];exact sto5_blk hzw _ _ _ _ _
    have hbW:Below w.heap.size w W:=by rw [hW];exact sto5_below hbw (Nat.le_refl _) _ _ _ _ _
    have r0:W.cell? ⟨w.heap.size,0,none⟩=some (.int .i64 0):=hBW.cell 0
    have r1:W.cell? ⟨w.heap.size,1,none⟩=some (.int .i64 0):=hBW.cell 1
    have r2:W.cell? ⟨w.heap.size,2,none⟩=some (.int .i64 0):=hBW.cell 2
    have r3:W.cell? ⟨w.heap.size,3,none⟩=some (.string ⟨#[]⟩):=hBW.cell 3
    have r4:W.cell? ⟨w.heap.size,4,none⟩=some (.slice none 0 0):=hBW.cell 4
    clear hW z0 z1 z2 z3 z4 zf0 zf1 zf2 zf3 zf4 hzw
    exact bodyPost_ret (v:=.tuple #[.agg #[.int .i64 0,.int .i64 0,.int .i64 0,.string ⟨#[]⟩,.slice none 0 0],.int .i64 p,.bool false]) (by simp [results,Tryz.results159,go_sem,r0,r1,r2,r3,r4]) rfl (Parsed.no Hno.out hbW)
  ·have H1:=hide h1
   have H2:=hide h2
   have H4:=hide h4
   have H8:=hide h8
   have H9:=hide h9
   have hn0:n<4294967296:=hw_n h4.1
   clear h1 h2 h4 h8 h9
   go_wp2_with fail
   go_loopw [11,8,9] (fun vi ve vs wr=>∃(i:Nat),vi=.int .i64 i∧i≤n∧Below w.heap.size w wr∧Blk wr w.heap.size 178 #[.int .i64 0,.int .i64 0,.int .i64 0,.string ⟨#[]⟩,.slice none 0 0]∧Lp s q n w k a b s' i ve vs wr) (fun vi _ _ _=>n - (intOf vi).toNat)
   case atStart=>exact ⟨0,rfl,Nat.zero_le _,hbw,hzw,.inl ⟨[],q,none,0,rfl,rfl,trivial,rfl,rfl,Nat.le_refl _,h6,hxb,World.ownsRow_nil _ _ _ _⟩⟩
   case round =>
    obtain ⟨i,rfl,hin,hbr,hzr,hlp⟩:=hrel
    rcases hlp with ⟨l,q',A,c2,rfl,rfl,hg,hli,hd,hq1,hq2,hxr,hown⟩ | ⟨en,rfl,rfl,hno⟩
    ·have Hd:=hide hd
     have Hli:=hide hli
     have Hg:=hide hg
     clear hd hli hg
     by_cases hlt:i<n
     ·have hii:(i:Int)<n:=by omega
      go_wp2_with fail
      refine (IH.out q' wr (by omega) hq2).mono ?_
      rintro e w2 ⟨hb2,hres⟩
      have hbr2:Below w.heap.size w w2:=bel_trans hbr hb2
      have hzr2:=hzr.below hb2 hzr.lt
      have hxr2:=hxr.below hb2 hxr.lt
      rcases hres with ⟨hno,rfl⟩ | ⟨t,q2,A2,n2,c3,hgt,hqq,hqs,hdt,htx,rfl⟩
      ·have HNs:=hide (noTs_stop Hg.out Hli.out hlt Hd.out hno)
       clear hno
       go_wp2_with fail
       exact ⟨⟨i+1,by go_num,hlt,by exact bel_by,hzr2.alloc _,.inr ⟨_,rfl,rfl,HNs.out⟩⟩,by simp [intOf];omega⟩
      ·have Hgt:=hide hgt
       have Hdt:=hide hdt
       have htl:(enc t).length=q2 - q':=by
        have h9:=congrArg List.length hdt
        rw [List.length_append,List.length_drop,List.length_drop] at h9
        have:s.data.toList.length=s.size:=rfl
        omega
       have hex:=hide (show s.extract q' q2=bs (enc t) by
        rw [ext_bs,Hdt.out,← htl,List.take_left])
       have qi1:(q':Int)≤q2:=by omega
       have qi2:(q2:Int)≤s.size:=by omega
       have hsnoc:=hide (encs_snoc Hd.out Hdt.out)
       have hgs:=hide (goods_snoc Hg.out Hgt.out)
       clear hgt hdt htx htl
       go_wp2_with fail
       --APP
       have hxw:=hxr2.alloc (.cells #[.int .i64 t.k,.int .i64 t.a,.int .i64 t.b,.string t.s,.slice A2 n2 c3] 178)
       have hzw2:=hzr2.alloc (.cells #[.int .i64 t.k,.int .i64 t.a,.int .i64 t.b,.string t.s,.slice A2 n2 c3] 178)
       have hbw2:Below w.heap.size w (w2.alloc (.cells #[.int .i64 t.k,.int .i64 t.a,.int .i64 t.b,.string t.s,.slice A2 n2 c3] 178)):=by exact bel_by
       have how:(w2.alloc (.cells #[.int .i64 t.k,.int .i64 t.a,.int .i64 t.b,.string t.s,.slice A2 n2 c3] 178)).ownsRow w.heap.size 9 1 (.slice A i c2) i (((l.map enc).map bs).map Value.string):=(hown.kept (only_of_below hb2 none) (ne_row (fun _ _=>by simp))).alloc _
       clear hxr2 hzr2 hown hbr2 hb2 hzr hxr hbr hzw hxb hbw
       generalize w2.alloc (.cells #[.int .i64 t.k,.int .i64 t.a,.int .i64 t.b,.string t.s,.slice A2 n2 c3] 178)=W2 at hxw hzw2 hbw2 how ⊢
       have ng:¬ (fun j=>(Value.slice A i c2).ownBlock=some j) (w.heap.size+1):=fun h=>own_blk_ne how hxw (by decide) h
       have nz:¬ (fun j=>(Value.slice A i c2).ownBlock=some j) w.heap.size:=fun h=>own_blk_ne how hzw2 (by decide) h
       have g4:W2.cell? ⟨w.heap.size+1,4,none⟩=some (.slice A i c2):=hxw.cell 4
       have hlo:∀j,(Value.slice A i c2).ownBlock=some j→w.heap.size≤j:=fun j hj=>(how.lt j hj).1
       refine wp_region_E (Outs (fun j=>(Value.slice A i c2).ownBlock=some j) W2) (fun j=>[1,6,7].contains j) (by kernel_rfl) ?_
       obtain ⟨Wd,hWd⟩:∃Wd,Wd=W2.drew:=⟨_,rfl⟩
       rw [←hWd]
       have hS:Outs (fun j=>(Value.slice A i c2).ownBlock=some j) W2 Wd:=by rw [hWd];exact (Outs.refl _ _).drew
       have hn:=how
       have hbg:=hxw
       change W2.drew.ownsRow _ _ _ _ _ _ at hn
       change Blk W2.drew _ _ _ at hbg
       rw [←hWd] at hn hbg
       clear hWd
       refine wpAnyE_takeY (i:=0) (oi:=?_) (v:=.pointer (some ⟨w.heap.size+1,4,none⟩)) ?_ ?_ ?_ ?_ ?_ ?_ ?_ ?_
       rotate_left 1
       ·(first | (simp only [List.getElem?_toArray,List.getElem?_cons_succ,List.getElem?_cons_zero];exact rfl) | exact rfl)
       ·kernel_rfl
       ·kernel_rfl
       ·kernel_rfl
       ·rfl
       ·exact fun _ _ _ h=>h
       ·exact Or.inl ⟨by rfl,fun w _=>by go_simp⟩
       try simp only [Act.put,List.setIfInBounds_toArray,List.set_cons_zero,List.set_cons_succ]
       refine wpAnyE_takeY (i:=2) (oi:=?_) (v:=.string s) ?_ ?_ ?_ ?_ ?_ ?_ ?_ ?_
       rotate_left 1
       ·(first | (simp only [List.getElem?_toArray,List.getElem?_cons_succ,List.getElem?_cons_zero];exact rfl) | exact rfl)
       ·kernel_rfl
       ·kernel_rfl
       ·kernel_rfl
       ·rfl
       ·exact fun _ _ _ h=>h
       ·exact Or.inl ⟨by rfl,fun w _=>by go_simp⟩
       try simp only [Act.put,List.setIfInBounds_toArray,List.set_cons_zero,List.set_cons_succ]
       refine wpAnyE_takeY (i:=3) (oi:=?_) (v:=.int .i64 q') ?_ ?_ ?_ ?_ ?_ ?_ ?_ ?_
       rotate_left 1
       ·(first | (simp only [List.getElem?_toArray,List.getElem?_cons_succ,List.getElem?_cons_zero];exact rfl) | exact rfl)
       ·kernel_rfl
       ·kernel_rfl
       ·kernel_rfl
       ·rfl
       ·exact fun _ _ _ h=>h
       ·exact Or.inl ⟨by rfl,fun w _=>by go_simp⟩
       try simp only [Act.put,List.setIfInBounds_toArray,List.set_cons_zero,List.set_cons_succ]
       refine wpAnyE_takeY (i:=4) (oi:=?_) (v:=.int .i64 q2) ?_ ?_ ?_ ?_ ?_ ?_ ?_ ?_
       rotate_left 1
       ·(first | (simp only [List.getElem?_toArray,List.getElem?_cons_succ,List.getElem?_cons_zero];exact rfl) | exact rfl)
       ·kernel_rfl
       ·kernel_rfl
       ·kernel_rfl
       ·rfl
       ·exact fun _ _ _ h=>h
       ·exact Or.inl ⟨by rfl,fun w _=>by go_simp⟩
       try simp only [Act.put,List.setIfInBounds_toArray,List.set_cons_zero,List.set_cons_succ]
       refine wpAnyE_takeY (i:=5) (oi:=?_) (v:=.string (s.extract q' q2)) ?_ ?_ ?_ ?_ ?_ ?_ ?_ ?_
       rotate_left 1
       ·(first | (simp only [List.getElem?_toArray,List.getElem?_cons_succ,List.getElem?_cons_zero];exact rfl) | exact rfl)
       ·kernel_rfl
       ·kernel_rfl
       ·kernel_rfl
       ·rfl
       ·exact fun _ _ _ h=>h
       ·exact Or.inl ⟨by rfl,fun w _=>by go_simp⟩
       try simp only [Act.put,List.setIfInBounds_toArray,List.set_cons_zero,List.set_cons_succ]
       refine wpAnyE_take (i:=1) (oi:=?_) (v:=.slice A i c2) ?_ ?_ ?_ ?_ ?_ ?_ ?_ hS ?_
       rotate_left 1
       ·(first | (simp only [List.getElem?_toArray,List.getElem?_cons_succ,List.getElem?_cons_zero];exact rfl) | exact rfl)
       ·kernel_rfl
       ·kernel_rfl
       ·kernel_rfl
       ·kernel_rfl
       ·exact fun _ _ _ h=>h
       ·refine Or.inl ⟨by rfl,fun w hSw=>?_⟩
        have k0:=hSw.cell g4 ng
        clear hSw
        go_simp
       try simp only [Act.put,List.setIfInBounds_toArray,List.set_cons_zero,List.set_cons_succ]
       refine wpAnyE_ready (rs:=[6]) (by kernel_rfl) (by simp) ?_
       refine AllReadyE.cons (o:=?_) ?_ (fun K hK=>?_) AllReadyE.nil
       rotate_left 1
       ·(first | (simp only [List.getElem?_toArray,List.getElem?_cons_succ,List.getElem?_cons_zero];exact rfl) | exact rfl)
       refine step_buildV (.cells #[.string (s.extract q' q2)] 9) (x:=.tmp 174) (u:=.string (s.extract q' q2)) rfl (by rfl) (fun ρ hρ=>?_) ?_
       ·exact bldS _ rfl ρ hρ _
       have hn:=hn.alloc (.cells #[.string (s.extract q' q2)] 9)
       have hbg:=hbg.alloc (.cells #[.string (s.extract q' q2)] 9)
       have hb6:=blk_nw hS #[.string (s.extract q' q2)] 9
       have hS:=hS.alloc (.cells #[.string (s.extract q' q2)] 9)
       refine hK.out _ _ hS (fun _=>?_)
       clear hK K
       try simp only [Act.put,List.setIfInBounds_toArray,List.set_cons_zero,List.set_cons_succ]
       refine wpAnyE_ready (rs:=[7]) (by kernel_rfl) (by simp) ?_
       refine AllReadyE.cons (o:=?_) ?_ (fun K hK=>?_) AllReadyE.nil
       rotate_left 1
       ·(first | (simp only [List.getElem?_toArray,List.getElem?_cons_succ,List.getElem?_cons_zero];exact rfl) | exact rfl)
       obtain ⟨iI,hiI,hI0,hI1,hI2⟩:=info_parts infoStr
       refine step_append_any _ rfl (.tmp 170) (.tmp 175) _ (by rfl) w.heap.size 9 iI (.string ⟨#[]⟩) 1 16 Tryz.underlying22 hiI hI0 hI1 hI2 (by rfl) (by decide) (.slice A i c2) i _ (by rfl) hn _ _ 1 1 [.string (s.extract q' q2)] (by rfl) (reads_blk hb6 (by rfl)) (by simp [Value.oneCell']) (by unfold maxLen;omega) (by omega) (by have:=hS.size;have:=hbw2.size;omega) ?_
       intro nv wn hown1 hgrow1 hat1
       obtain ⟨A7,c7,rfl⟩:=own_sl hown1
       have hbg:=hbg.grown hgrow1 (fun e=>ng e.symm)
       have hat1:=at_or hat1 hS.size
       have hS:=hS.grown hgrow1 (fun b e=>.inl e)
       refine hK.out _ _ hS (fun _=>?_)
       clear hK K hn hiI hI0 hI1 hI2 iI
       try simp only [Act.put,List.setIfInBounds_toArray,List.set_cons_zero,List.set_cons_succ]
       refine wpAnyE_ready (rs:=[8]) (by kernel_rfl) (by simp) ?_
       refine AllReadyE.late (o:=?_) ?_ rfl (fun K hK=>?_) AllReadyE.nil
       rotate_left 1
       ·(first | (simp only [List.getElem?_toArray,List.getElem?_cons_succ,List.getElem?_cons_zero];exact rfl) | exact rfl)
       refine step_sameV (x:=.tmp 7) (u:=.pointer (some ⟨w.heap.size+1,0,none⟩)) (v:=.pointer (some ⟨w.heap.size+1,4,none⟩)) rfl (by rfl) (fun ρ hρ=>?_) ?_
       ·exact fldN4 _ rfl ρ hρ _
       refine hK.out _ _ ?_
       clear hK K
       try simp only [Act.put,List.setIfInBounds_toArray,List.set_cons_zero,List.set_cons_succ]
       refine wpAnyE_ready (rs:=[9]) (by kernel_rfl) (by simp) ?_
       refine AllReadyE.late (o:=?_) ?_ rfl (fun K hK=>?_) AllReadyE.nil
       rotate_left 1
       ·(first | (simp only [List.getElem?_toArray,List.getElem?_cons_succ,List.getElem?_cons_zero];exact rfl) | exact rfl)
       refine step_storeV (p:=⟨w.heap.size+1,4,none⟩) (x:=.tmp 177) (y:=.tmp 176) (u:=.pointer (some ⟨w.heap.size+1,4,none⟩)) (v:=.slice A7 (i+1) c7) rfl (by rfl) (by rfl) (fun ρ hρ hρ2=>?_) ?_
       ·exact stoS _ rfl ρ hρ hρ2 _ hbg (by simp)
       refine hK.out _ _ ?_
       clear hK K
       have hown2:=own_set_ hown1 hbg (by decide) 4 (.slice A7 (i+1) c7)
       have hzf:=(hS.blk hzw2 nz).far (p:=⟨w.heap.size+1,4,none⟩) (by simp) (.slice A7 (i+1) c7)
       have hbf:Below w.heap.size w (wn.setCell ⟨w.heap.size+1,4,none⟩ (.slice A7 (i+1) c7)):=Below.setCell (p:=⟨w.heap.size+1,4,none⟩) (outs_below hbw2 hS hlo hbw2.size) (by simp) _
       have hbg2:=hbg.set_ 4 (.slice A7 (i+1) c7)
       try simp only [Act.put,List.setIfInBounds_toArray,List.set_cons_zero,List.set_cons_succ]
       refine wpAnyE_done (by kernel_rfl) ?_ _
       clear hS hbg hown1 hgrow1 hat1 hb6 hxw hzw2 hbw2 how g4 ng nz hlo
       generalize wn.setCell ⟨w.heap.size+1,4,none⟩ (.slice A7 (i+1) c7)=wz at hown2 hzf hbf hbg2 ⊢
       rw [hex.out] at hown2
       have hown3:=hide hown2
       clear hown2
       go_wp2_with fail
       exact ⟨⟨i+1,by go_num,hlt,hbf,hzf,.inl ⟨l++[t],q2,A7,c7,rfl,rfl,hgs.out,by rw [List.length_append,Hli.out];rfl,hsnoc.out,by omega,hqs,by simpa using hbg2,by simpa using hown3.out⟩⟩,by simp [intOf];omega⟩
       --ENDAPP
     ·have hii:¬ (i:Int)<n:=by omega
      have hin2:i=n:=by omega
      subst hin2
      have hT:Txs wr (.slice A i c2) (l.map enc):=own_txs hown (by rw [List.length_map,Hli.out])
      have hfine:∀t∈l,fine t:=fun t ht=>by
       refine ⟨(goods_iff l).1 Hg.out t ht,?_⟩
       have h9:=congrArg List.length Hd.out
       rw [List.length_append,List.length_drop] at h9
       have h10:s.data.toList.length=s.size:=rfl
       have h11:=mem_enc_len ht
       omega
      have hhw:hw k a b s' l.length:=by rw [Hli.out];exact H4.out.1
      have HR:=hide (rRight_any (k:=k) (n:=i) (c:=c2) (A:=A) hhw hT hfine (by omega) (fun e=>by rw [Hli.out];exact H8.out e) (fun e=>by rw [Hli.out];exact H9.out e))
      clear hT hfine hhw
      have x0:wr.cell? ⟨w.heap.size+1,0,none⟩=some (.int .i64 k):=hxr.cell 0
      have x1:wr.cell? ⟨w.heap.size+1,1,none⟩=some (.int .i64 a):=hxr.cell 1
      have x2:wr.cell? ⟨w.heap.size+1,2,none⟩=some (.int .i64 b):=hxr.cell 2
      have x3:wr.cell? ⟨w.heap.size+1,3,none⟩=some (.string s'):=hxr.cell 3
      have x4:wr.cell? ⟨w.heap.size+1,4,none⟩=some (.slice A i c2):=hxr.cell 4
      go_wp2_with fail
      refine HR.out.mono ?_
      rintro e w3 ⟨rb,rfl,hiff,hb3⟩
      have Hiff:=hide hiff
      have hzr3:=hzr.below hb3 hzr.lt
      have hxr3:=hxr.below hb3 hxr.lt
      have hbr3:Below w.heap.size w w3:=bel_trans hbr hb3
      have hown3:=hown.kept (only_of_below hb3 none) (ne_row (fun _ _=>by simp))
      clear hiff x0 x1 x2 x3 x4 hzr hxr hbr hb3 hown hzw hbw hxb
      have z0:w3.cell? ⟨w.heap.size,0,none⟩=some (.int .i64 0):=hzr3.cell 0
      have z1:w3.cell? ⟨w.heap.size,1,none⟩=some (.int .i64 0):=hzr3.cell 1
      have z2:w3.cell? ⟨w.heap.size,2,none⟩=some (.int .i64 0):=hzr3.cell 2
      have z3:w3.cell? ⟨w.heap.size,3,none⟩=some (.string ⟨#[]⟩):=hzr3.cell 3
      have z4:w3.cell? ⟨w.heap.size,4,none⟩=some (.slice none 0 0):=hzr3.cell 4
      have zf0:=hzr3.frozen 0
      have zf1:=hzr3.frozen 1
      have zf2:=hzr3.frozen 2
      have zf3:=hzr3.frozen 3
      have zf4:=hzr3.frozen 4
      have x0:w3.cell? ⟨w.heap.size+1,0,none⟩=some (.int .i64 k):=hxr3.cell 0
      have x1:w3.cell? ⟨w.heap.size+1,1,none⟩=some (.int .i64 a):=hxr3.cell 1
      have x2:w3.cell? ⟨w.heap.size+1,2,none⟩=some (.int .i64 b):=hxr3.cell 2
      have x3:w3.cell? ⟨w.heap.size+1,3,none⟩=some (.string s'):=hxr3.cell 3
      have x4:w3.cell? ⟨w.heap.size+1,4,none⟩=some (.slice A i c2):=hxr3.cell 4
      cases rb with
      | true =>
       have HY:=hide (show good (.mk k a b s' l)∧s.data.toList.drop p=enc (.mk k a b s' l)++s.data.toList.drop q' from by
        rw [H1.out]
        refine H4.out.yes H2.out h3 Hg.out Hli.out Hd.out ?_
        have h12:=Hiff.out.1 rfl
        unfold RightB at h12
        rw [Hli.out] at h12
        exact h12)
       go_wp2_with fail
       obtain ⟨W,hW⟩:∃W,W=sto5 w3 w.heap.size (.int .i64 k) (.int .i64 a) (.int .i64 b) (.string s') (.slice A i c2):=⟨_,rfl⟩
       change bodyPost _ _ _ _ _ (sto5 w3 w.heap.size (.int .i64 k) (.int .i64 a) (.int .i64 b) (.string s') (.slice A i c2))
       rw [←hW]
       have hBW:Blk W w.heap.size 178 #[.int .i64 k,.int .i64 a,.int .i64 b,.string s',.slice A i c2]:=by rw [hW];exact sto5_blk hzr3 _ _ _ _ _
       have hbW:Below w.heap.size w W:=by rw [hW];exact sto5_below hbr3 (Nat.le_refl _) _ _ _ _ _
       have hTW:TxL w.heap.size W (.slice A i c2) (l.map enc):=own_txl (own_sto5 hown3 hzr3 (by decide) hW) (by rw [List.length_map,Hli.out])
       have r0:W.cell? ⟨w.heap.size,0,none⟩=some (.int .i64 k):=hBW.cell 0
       have r1:W.cell? ⟨w.heap.size,1,none⟩=some (.int .i64 a):=hBW.cell 1
       have r2:W.cell? ⟨w.heap.size,2,none⟩=some (.int .i64 b):=hBW.cell 2
       have r3:W.cell? ⟨w.heap.size,3,none⟩=some (.string s'):=hBW.cell 3
       have r4:W.cell? ⟨w.heap.size,4,none⟩=some (.slice A i c2):=hBW.cell 4
       clear hW
       exact bodyPost_ret (v:=.tuple #[.agg #[.int .i64 k,.int .i64 a,.int .i64 b,.string s',.slice A i c2],.int .i64 q',.bool true]) (by simp [results,Tryz.results159,go_sem,r0,r1,r2,r3,r4]) rfl ⟨hbW,.inr ⟨.mk k a b s' l,q',A,i,c2,HY.out.1,by omega,hq2,HY.out.2,hTW,rfl⟩⟩
      | false =>
       have HN:=hide (show NoT (s.data.toList.drop p) from by
        rw [H1.out]
        refine H4.out.not H2.out Hg.out Hli.out Hd.out (fun h=>?_)
        have h12:false=true:=Hiff.out.2 (by unfold RightB;rw [Hli.out];exact h)
        cases h12)
       go_wp2_with fail
       obtain ⟨W,hW⟩:∃W,W=sto5 w3 w.heap.size (.int .i64 0) (.int .i64 0) (.int .i64 0) (.string ⟨#[]⟩) (.slice none 0 0):=⟨_,rfl⟩
       change bodyPost _ _ _ _ _ (sto5 w3 w.heap.size (.int .i64 0) (.int .i64 0) (.int .i64 0) (.string ⟨#[]⟩) (.slice none 0 0))
       rw [←hW]
       have hBW:Blk W w.heap.size 178 #[.int .i64 0,.int .i64 0,.int .i64 0,.string ⟨#[]⟩,.slice none 0 0]:=by rw [hW];exact sto5_blk hzr3 _ _ _ _ _
       have hbW:Below w.heap.size w W:=by rw [hW];exact sto5_below hbr3 (Nat.le_refl _) _ _ _ _ _
       have r0:W.cell? ⟨w.heap.size,0,none⟩=some (.int .i64 0):=hBW.cell 0
       have r1:W.cell? ⟨w.heap.size,1,none⟩=some (.int .i64 0):=hBW.cell 1
       have r2:W.cell? ⟨w.heap.size,2,none⟩=some (.int .i64 0):=hBW.cell 2
       have r3:W.cell? ⟨w.heap.size,3,none⟩=some (.string ⟨#[]⟩):=hBW.cell 3
       have r4:W.cell? ⟨w.heap.size,4,none⟩=some (.slice none 0 0):=hBW.cell 4
       clear hW
       exact bodyPost_ret (v:=.tuple #[.agg #[.int .i64 0,.int .i64 0,.int .i64 0,.string ⟨#[]⟩,.slice none 0 0],.int .i64 p,.bool false]) (by simp [results,Tryz.results159,go_sem,r0,r1,r2,r3,r4]) rfl (Parsed.no HN.out hbW)
    ·have Hno:=hide (H4.out.no (c:=c') H2.out hno)
     rw [←H1.out] at Hno
     clear hno
     have z0:wr.cell? ⟨w.heap.size,0,none⟩=some (.int .i64 0):=hzr.cell 0
     have z1:wr.cell? ⟨w.heap.size,1,none⟩=some (.int .i64 0):=hzr.cell 1
     have z2:wr.cell? ⟨w.heap.size,2,none⟩=some (.int .i64 0):=hzr.cell 2
     have z3:wr.cell? ⟨w.heap.size,3,none⟩=some (.string ⟨#[]⟩):=hzr.cell 3
     have z4:wr.cell? ⟨w.heap.size,4,none⟩=some (.slice none 0 0):=hzr.cell 4
     have zf0:=hzr.frozen 0
     have zf1:=hzr.frozen 1
     have zf2:=hzr.frozen 2
     have zf3:=hzr.frozen 3
     have zf4:=hzr.frozen 4
     by_cases hii:(i:Int)<n
     ·go_wp2_with fail
      obtain ⟨W,hW⟩:∃W,W=sto5 wr w.heap.size (.int .i64 0) (.int .i64 0) (.int .i64 0) (.string ⟨#[]⟩) (.slice none 0 0):=⟨_,rfl⟩
      change bodyPost _ _ _ _ _ (sto5 wr w.heap.size (.int .i64 0) (.int .i64 0) (.int .i64 0) (.string ⟨#[]⟩) (.slice none 0 0))
      rw [←hW]
      have hBW:Blk W w.heap.size 178 #[.int .i64 0,.int .i64 0,.int .i64 0,.string ⟨#[]⟩,.slice none 0 0]:=by rw [hW];exact sto5_blk hzr _ _ _ _ _
      have hbW:Below w.heap.size w W:=by rw [hW];exact sto5_below hbr (Nat.le_refl _) _ _ _ _ _
      have r0:W.cell? ⟨w.heap.size,0,none⟩=some (.int .i64 0):=hBW.cell 0
      have r1:W.cell? ⟨w.heap.size,1,none⟩=some (.int .i64 0):=hBW.cell 1
      have r2:W.cell? ⟨w.heap.size,2,none⟩=some (.int .i64 0):=hBW.cell 2
      have r3:W.cell? ⟨w.heap.size,3,none⟩=some (.string ⟨#[]⟩):=hBW.cell 3
      have r4:W.cell? ⟨w.heap.size,4,none⟩=some (.slice none 0 0):=hBW.cell 4
      clear hW
      exact bodyPost_ret (v:=.tuple #[.agg #[.int .i64 0,.int .i64 0,.int .i64 0,.string ⟨#[]⟩,.slice none 0 0],.int .i64 p,.bool false]) (by simp [results,Tryz.results159,go_sem,r0,r1,r2,r3,r4]) rfl (Parsed.no Hno.out hbW)
     ·go_wp2_with fail
      obtain ⟨W,hW⟩:∃W,W=sto5 wr w.heap.size (.int .i64 0) (.int .i64 0) (.int .i64 0) (.string ⟨#[]⟩) (.slice none 0 0):=⟨_,rfl⟩
      change bodyPost _ _ _ _ _ (sto5 wr w.heap.size (.int .i64 0) (.int .i64 0) (.int .i64 0) (.string ⟨#[]⟩) (.slice none 0 0))
      rw [←hW]
      have hBW:Blk W w.heap.size 178 #[.int .i64 0,.int .i64 0,.int .i64 0,.string ⟨#[]⟩,.slice none 0 0]:=by rw [hW];exact sto5_blk hzr _ _ _ _ _
      have hbW:Below w.heap.size w W:=by rw [hW];exact sto5_below hbr (Nat.le_refl _) _ _ _ _ _
      have r0:W.cell? ⟨w.heap.size,0,none⟩=some (.int .i64 0):=hBW.cell 0
      have r1:W.cell? ⟨w.heap.size,1,none⟩=some (.int .i64 0):=hBW.cell 1
      have r2:W.cell? ⟨w.heap.size,2,none⟩=some (.int .i64 0):=hBW.cell 2
      have r3:W.cell? ⟨w.heap.size,3,none⟩=some (.string ⟨#[]⟩):=hBW.cell 3
      have r4:W.cell? ⟨w.heap.size,4,none⟩=some (.slice none 0 0):=hBW.cell 4
      clear hW
      exact bodyPost_ret (v:=.tuple #[.agg #[.int .i64 0,.int .i64 0,.int .i64 0,.string ⟨#[]⟩,.slice none 0 0],.int .i64 p,.bool false]) (by simp [results,Tryz.results159,go_sem,r0,r1,r2,r3,r4]) rfl (Parsed.no Hno.out hbW)
end Go.Proofs.YtkfnepnghnicoaaGreatDoor
