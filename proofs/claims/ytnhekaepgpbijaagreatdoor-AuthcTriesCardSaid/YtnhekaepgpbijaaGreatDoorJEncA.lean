/-
  Several of my texts in one: BldS, Enc.
-/
import Derived.Test.YtnhekaepgpbijaaGreatDoorJChnG
import Derived.Test.YtnhekaepgpbijaaGreatDoorJPut
import Derived.Test.YtnhekaepgpbijaaGreatDoorJMakeAG
set_option linter.unusedVariables false
set_option linter.unusedSimpArgs false
set_option maxHeartbeats 40000000
set_option maxRecDepth 100000
namespace Go.Proofs.YtnhekaepgpbijaaGreatDoor
open Go.RowKit Go.ChangeShapes Go.WideShapes
theorem pE {P:Program} (w:World) (base:Nat) (t u ty e:TypeId) (i:TypeInfo) (ht:P.underlying t=some (.slice e)) (hu:P.underlying u=some .string) (hi:P.info? e=some i) (hz:i.zero=some (.int .u8 0))
  (hsize:i.size=1) (hby:i.bytes=1)
  (v:Value) (n:Nat) (xs:List Value) (hown:w.ownsRow base e 1 v n xs) (s:ByteArray)
  (h63:n+s.size≤maxLen) (hbytes:n+s.size≤140737488355328) (hbase:base≤w.heap.size) :
  ∃v' w',(Builtin.append_ #[t,u] ty #[v,.string s]).run P w=.ok v' w'∧w'.ownsRow base e 1 v' (n+s.size) (xs++Lib.strCells s)∧w.grownBy w' v.ownBlock∧(v'.ownBlock=v.ownBlock∨v'.ownBlock=some w.heap.size):=by
 obtain ⟨v',w',hr,h2,h3,h4⟩:=Lib.run_append_own_string (P:=P) w base t u ty e i ht hu hi hz hsize hby v n xs hown s h63 hbytes hbase;refine ⟨v',w',hr,h2,h3,?_⟩;have hsmall:n+s.size≤9223372036854775807:=by simp only [maxLen] at h63;omega
 have hxl:xs.length=n:=by simpa using hown.1
 rcases hown.2 with ⟨rfl,rfl⟩ | ⟨g,cap,cur,rfl,hbg,hg,hnc,hcm,hcs,htake⟩
 ·by_cases hm:s.size=0
  ·rw [h4.2 ⟨rfl,hm⟩]
   exact .inl rfl
  ·have hr2:=run_append_nil_string (P:=P) w t u ty e i (.int .u8 0) ht hu hi hz s (by omega) (by omega) (by rw [hby];omega)
   rw [hr] at hr2;injection hr2 with e1 e2;rw [e1];exact .inr rfl
 ·by_cases hroom:n+s.size≤cap
  ·have hcs':cur.size=cap:=by simpa using hcs
   have hr2:=Lib.run_append_room_string (P:=P) w t u ty e i ht hu hi hsize g n cap cur hg s hroom (by omega);rw [hr] at hr2;injection hr2 with e1 e2;rw [e1];exact .inl rfl
  ·have holds:∀j u,xs[j]?=some u→w.cell? ((⟨g,0,none⟩:Addr).add j)=some u:=hown.cells (g:=g) rfl
   have hr2:=Lib.run_append_grow_string (P:=P) w t u ty e i (.int .u8 0) ht hu hi hz ⟨g,0,none⟩ n cap xs (by rw [hsize];simpa using hxl) holds s (by omega) (by omega) (by rw [hby];exact growslice_fits (by omega) (by omega));rw [hr] at hr2;injection hr2 with e1 e2;rw [e1];exact .inr rfl
theorem og {P:Program} {w:World} {ops:Array Oper} {rest:List Oper} {o:Oper} {a:Act} {Q:Exit→Act→World→Prop} (hgd:o.guard=none) (sl x:Operand) (t u:TypeId)
  (ho:o.op=.call { callee:=.builtin .append,args:=#[sl,x],argTypes:=#[t,u] })
  (base:Nat) (e:TypeId) (i:TypeInfo) (ht:P.underlying t=some (.slice e)) (hu:P.underlying u=some .string) (hi:P.info? e=some i) (hz:i.zero=some (.int .u8 0))
  (hsize:i.size=1) (hby:i.bytes=1)
  (v:Value) (n:Nat) (xs:List Value) (hs:a.eval sl=v) (hown:w.ownsRow base e 1 v n xs) (s:ByteArray) (hx:a.eval x=.string s)
  (h63:n+s.size≤maxLen) (hbytes:n+s.size≤140737488355328) (hbase:base≤w.heap.size)
  (h:∀v' w',w'.ownsRow base e 1 v' (n+s.size) (xs++Lib.strCells s)→w.grownBy w' v.ownBlock→(v'.ownBlock=v.ownBlock∨v'.ownBlock=some w.heap.size)→wpList P ops Q rest (a.put o.dst v') w'):wpList P ops Q (o :: rest) a w:=by
 refine wpList_plain hgd fun K hK=>?_
 obtain ⟨v',w',hr,h2,h3,h4⟩:=pE (P:=P) w base t u o.type e i ht hu hi hz hsize hby v n xs hown s h63 hbytes hbase;unfold Oper.wp execOp;simp only [ho,resolve,invoke,builtin,Sem.run_bind,Sem.run_pure,Result.andThen_ok,List.map_toArray,List.map_cons,List.map_nil,hs,hx,hr];exact hK _ _ (h v' w' h2 h3 h4)
structure BlS (B:Nat) (S:Nat→Prop) (b:Nat) (l:List UInt8) (w:World):Prop where
 ex:∃p v,(p=.pointer none∨p=.pointer (some ⟨b,0,none⟩))∧Lib.BuilderAt 257 5 B b p (Lib.byteCells l) w∧Blk w b 257 #[p,v]∧∀i,v.ownBlock=some i→S i
 sb:S b
 sB:∀i,S i→B≤i
 sL:∀i,S i→i<w.heap.size
theorem Grown.row {S0 S:Nat→Prop} {w wx wz:World} {row:Option Nat} (h:Grown S0 w S wx) (k:wx.grownBy wz row) (hr:∀b,row=some b→S b):Grown S0 w S wz :=
 ⟨k.os.trans h.os,k.tape.trans h.tape,k.output.trans h.output,Nat.le_trans h.size k.size,fun i hi hn=>(k.block i (Nat.lt_of_lt_of_le hi h.size) (fun e=>by
  rcases h.new i (hr i e.symm) with h3 | h3
  ·exact hn h3
  ·omega)).trans (h.block i hi hn),h.sub,h.new⟩
theorem Grown.widen {S0 S S2:Nat→Prop} {w wx:World} (h:Grown S0 w S wx) (h1:∀i,S i→S2 i) (h2:∀i,S2 i→S i∨w.heap.size≤i):Grown S0 w S2 wx :=
 ⟨h.os,h.tape,h.output,h.size,h.block,fun i hi=>h1 i (h.sub i hi),fun i hi=>by
  rcases h2 i hi with h3 | h3
  ·exact h.new i h3
  ·exact .inr h3⟩
section
variable {B b : Nat} {S : Nat → Prop} {l : List UInt8} {w w' : World}
theorem BlS.bld (h:BlS B S b l w):Bld B b l w:=by
 obtain ⟨p,v,hp,hb,_,_⟩:=h.ex;rcases hp with rfl | rfl
 ·exact .inl hb
 ·exact .inr hb
theorem BlS.below (h:BlS B S b l w) (hb:Below w.heap.size w w'):BlS B S b l w':=by
 obtain ⟨p,v,hp,hB,hk,hs⟩:=h.ex;refine ⟨⟨p,v,hp,?_,hk.below hb hk.lt,hs⟩,h.sb,h.sB,fun i hi=>Nat.lt_of_lt_of_le (h.sL i hi) hb.size⟩;obtain ⟨h1,v',h2,h3,h4⟩:=hB;exact ⟨h1,v',Blk.below (cs:=#[p,v']) h2 hb (Blk.lt (cs:=#[p,v']) h2),h3.kept (ai hb none) (by cases v'.ownBlock <;> simp),h4⟩
theorem Oq (w:World):BlS w.heap.size (fun i=>i=w.heap.size) w.heap.size [] (w.alloc (.cells #[.pointer none,.slice none 0 0] 257)) :=
 ⟨⟨_,_,.inl rfl,⟨Nat.le_refl _,_,heap_alloc_new w _,World.ownsRow_nil _ _ _ _,by simp [Value.ownBlock]⟩,Blk.new w _ _,fun i hi=>by simp [Value.ownBlock] at hi⟩,rfl,fun i hi=>by omega,fun i hi=>by simp;omega⟩
theorem Rm {p v:Value} {bs:List Value} (hp:p=.pointer none∨p=.pointer (some ⟨b,0,none⟩)) (h:Lib.BuilderAt 257 5 B b p bs w) (hk:Blk w b 257 #[p,v]) :
  Calls Tryz.prog 246 #[.pointer (some ⟨b,0,none⟩)] w fun e w'=>e=.returned (.tuple #[])∧Lib.BuilderAt 257 5 B b (.pointer (some ⟨b,0,none⟩)) bs w'∧Blk w' b 257 #[.pointer (some ⟨b,0,none⟩),v]∧w.grownBy w' (some b):=by
 rcases hp with rfl | rfl
 ·refine (ru b w h.cell0 h.shape h.frozen0).mono ?_
  rintro e w' ⟨rfl,rfl⟩;exact ⟨rfl,h.used _,by simpa using hk.set_ 0 (.pointer (some ⟨b,0,none⟩)),ag (aj w _) (.inl rfl) _⟩
 ·refine (uV b w h.cell0).mono ?_
  rintro e w' ⟨rfl,rfl⟩;exact ⟨rfl,h,hk,aj _ _⟩
theorem O8 (s:ByteArray) (h:BlS B S b l w) (hlen:l.length+s.size≤140737488355328) (hBw:B≤w.heap.size) :
  Calls Tryz.prog 182 #[.pointer (some ⟨b,0,none⟩),.string s] w fun e w'=>e=.returned (.tuple #[.int .i64 s.size,.nilIface])∧∃S',BlS B S' b (l++s.data.toList) w'∧Grown S w S' w':=by
 obtain ⟨i0,hi,hz0,hz1,hz2⟩:=info_parts infoByte;obtain ⟨p,v,hp,hB,hk,hs⟩:=h.ex;have hbc:(Lib.byteCells l).length=l.length:=by simp [Lib.byteCells]
 have hS:=h.sb;have hSB:=h.sB;have hSL:=h.sL;have Hh:=hide h;clear h;go_enter Tryz.func182,Tryz.ntmps182;go_wp2_with (go_at_call 246;refine (Rm hp hB hk).mono ?_);rintro e w1 ⟨rfl,h1,hk1,hg1⟩;obtain ⟨hB,v2,hbk,hown,hne⟩:=h1
 obtain rfl:v2=v:=by
  have:=hbk.symm.trans hk1;simp at this;exact this
 have c0:w1.cell? ⟨b,0,none⟩=some (.pointer (some ⟨b,0,none⟩)):=by rw [Lib.cell_of_heap hbk];rfl
 have c1:w1.cell? ⟨b,1,none⟩=some v2:=by rw [Lib.cell_of_heap hbk];rfl
 go_wp2_with (at_builtin;refine og rfl _ _ 211 9 rfl B 5 i0 Tryz.underlying211 Tryz.underlying9 hi hz0 hz1 hz2 _ _ _ rfl hown s rfl ?c3 ?c4 ?c5 ?_)
 case c3=>unfold maxLen;omega
 case c4=>omega
 case c5=>have:=hg1.size;omega
 intro v' w2 hown' hgrow hor;have hb2:=Blk.grown (g:=b) hk1 hgrow (fun e=>hne e.symm);have d0:w2.cell? ⟨b,0,none⟩=some (.pointer (some ⟨b,0,none⟩)):=by rw [Lib.cell_of_heap hb2];rfl
 have d1:w2.cell? ⟨b,1,none⟩=some v2:=by rw [Lib.cell_of_heap hb2];rfl
 have f1:w2.frozen? ⟨b,1,none⟩=false:=Lib.frozen_of_heap hb2 1
 obtain ⟨ao,n',cap,rfl⟩:∃ao n' cap,v'=.slice ao n' cap:=by
  rcases hown'.2 with ⟨hv,_⟩ | ⟨g,cap,cur,hv,_⟩
  ·exact ⟨_,_,_,hv⟩
  ·exact ⟨_,_,_,hv⟩
 go_wp2;go_ret2;have hG1:Grown S w S w1:=(Grown.refl S w).row hg1 (fun b' e=>by cases e;exact hS);have hG2:Grown S w S w2:=hG1.row hgrow hs;have hz:w.heap.size≤w1.heap.size:=hg1.size
 have hnew:∀i,(Value.slice ao n' cap).ownBlock=some i→S i∨w.heap.size≤i:=by
  intro i hi;rcases hor with h | h
  ·exact .inl (hs i (h.symm.trans hi))
  ·rw [h] at hi
   cases hi
   exact .inr hz
 have hG3:Grown S w (fun i=>S i∨(Value.slice ao n' cap).ownBlock=some i) (w2.setCell ⟨b,1,none⟩ (.slice ao n' cap)) :=
  (hG2.row (ag (aj w2 (some b)) (.inl rfl) _) (fun b' e=>by cases e;exact hS)).widen (fun i hi=>.inl hi) (fun i hi=>by
   rcases hi with hi | hi
   ·exact .inl hi
   ·exact hnew i hi)
 refine ⟨rfl,_,⟨⟨_,_,.inr rfl,?_,by simpa using hb2.set_ 1 (.slice ao n' cap),fun i hi=>.inr hi⟩,.inl hS,?_,?_⟩,hG3⟩
 ·have:=Lib.BuilderAt.put (T:=257) (e:=5) hB hb2 (bs':=Lib.byteCells l++Lib.strCells s) (by rw [List.length_append,hbc,Lib.strCells_length];exact hown') (by decide)
  rw [←vZ];exact this
 ·rintro i (hi | hi)
  ·exact hSB i hi
  ·exact (hown'.lt i hi).1
 ·rintro i (hi | hi)
  ·have:=hSL i hi
   have:=hG2.size;simp only [World.size_setCell];omega
  ·have:=(hown'.lt i hi).2
   simpa only [World.size_setCell] using this
end
end Go.Proofs.YtnhekaepgpbijaaGreatDoor

namespace Go.Proofs.YtnhekaepgpbijaaGreatDoor
open Go.RowKit Go.ChangeShapes Go.WideShapes Go.Sort
theorem OU (t:Tm):enc t=head t.k t.a t.b t.s.data.toList t.l.length++encs t.l:=by
 cases t
 simp [enc,Tm.k,Tm.a,Tm.b,Tm.s,Tm.l]
theorem JO {l:List Tm} {i:Nat} (h:i<l.length):encs (l.take (i+1))=encs (l.take i)++enc l[i]:=by
 rw [List.take_succ_eq_append_getElem h,iG];simp [encs]
theorem vD (l:List Tm) (i:Nat):(encs (l.take i)).length≤(encs l).length:=by
 have h:encs l=encs (l.take i)++encs (l.drop i):=by rw [←iG,List.take_append_drop]
 rw [h,List.length_append];omega
theorem xG {T:List Tm} {n:Int} {w w':World} {e:Ending} (h:arg T n=none) (hv:yF T n w e w') :
  e=.returned (.tuple #[.agg #[.int .i64 0,.int .i64 0,.int .i64 0,.string ⟨#[]⟩,.slice none 0 0],.bool false])∧Below w.heap.size w w':=by
 obtain ⟨hv | ⟨t,js,av,h1,_⟩,hb⟩:=hv
 ·exact ⟨hv.2,hb⟩
 ·rw [h] at h1;cases h1
theorem xR {T:List Tm} {n:Int} {w w':World} {e:Ending} {t:Tm} (h:arg T n=some t) (hv:yF T n w e w') :
  ∃js A c,dJ T t.l js∧e=.returned (.tuple #[.agg #[.int .i64 t.k,.int .i64 t.a,.int .i64 t.b,.string t.s,.slice A t.l.length c],.bool true])∧w'.ownsRow w.heap.size 39 1 (.slice A t.l.length c) js.length ((js.map Int.ofNat).map (Value.int .i64))∧Below w.heap.size w w':=by
 obtain ⟨hv | ⟨u,js,av,h1,ha,rfl,ho⟩,hb⟩:=hv
 ·rw [h] at hv;cases hv.1
 ·rw [h] at h1
  cases h1
  obtain ⟨A,c,rfl⟩:=gH ho;rw [ha.len] at ho ⊢;exact ⟨js,A,c,ha,rfl,by rw [ha.len];exact ho,hb⟩
theorem NV (l:List Tm):l.length≤(encs l).length:=by
 induction l with
 | nil=>exact Nat.le_refl _
 | cons t l ih =>
  have h1:1≤(enc t).length:=List.length_pos_iff.2 (yO t);simp only [encs,List.length_append,List.length_cons];omega
def Wrote (B:Nat) (S:Nat→Prop) (b:Nat) (l:List UInt8) (w:World) (e:Ending) (w':World):Prop :=
 e=.returned (.tuple #[])∧∃S',BlS B S' b l w'∧Grown S w S' w'
theorem Grown.outs_ {S S':Nat→Prop} {w w':World} (h:Grown S w S' w'):cK S w w':=⟨h.os,h.tape,h.output,h.size,h.block⟩
theorem IZ {B:Nat} {w w':World} {S:Nat→Prop} {A:Option Addr} {n c:Nat} {ns:List Int} (h:w.ownsRow B 39 1 (.slice A n c) ns.length (ns.map (Value.int .i64))) (ho:cK S w w') (hS:∀i,B≤i→i<w.heap.size→¬ S i) :
  ∀(k:Nat) (j:Int),ns[k]?=some j→∃ad,A=some ad∧B≤ad.block∧ad.block<w.heap.size∧w'.cell? (ad.add k)=some (.int .i64 j):=by
 intro k j hk;have hkl:=(List.getElem?_eq_some_iff.1 hk).1;obtain ⟨gb,cap,hv,hb,hlt⟩:=h.form (by omega);have hc:=h.cells (g:=gb) (by rw [hv];rfl) k (.int .i64 j) (by rw [List.getElem?_map,hk];rfl);have hA:A=some ⟨gb,0,none⟩:=by injection hv
 exact ⟨_,hA,hb,hlt,ho.cell hc (by rw [ax];exact hS gb hb hlt)⟩
section
variable {B0 g : Nat} {w0 : World} {T : List Tm} {SA : Nat → Prop}
theorem xW (h0:Ar B0 w0 g T SA) (b:Nat) (n:Int) (l:List UInt8) (S:Nat→Prop) (w:World) (E:arg T n=none) (hb:Below w0.heap.size w0 w) (hB:BlS w0.heap.size S b l w) :
  Calls Tryz.prog 301 #[.pointer (some ⟨b,0,none⟩),.pointer (some ⟨g,0,none⟩),.int .i64 n] w (Wrote w0.heap.size S b (l++txt (arg T n)) w):=by
 have HV:=hide (mf (h0.below hb) n);have HB:=hide hB;have Eh:=hide E;rw [E];clear E h0 hB;go_enter Tryz.func301,Tryz.ntmps301;go_wp2_with (go_at_call 101;refine HV.out.mono ?_;rintro e w1 hv;obtain ⟨rfl,hb1⟩:=xG Eh.out hv;clear hv);refine bodyPost_ret (results_none rfl _ _ _) rfl ?_;have hb2:Below w.heap.size w (w1.alloc (.cells #[.int .i64 0,.int .i64 0,.int .i64 0,.string ⟨#[]⟩,.slice none 0 0] 126)):=hb1.alloc hb1.size _;exact ⟨rfl,S,by simpa [txt] using HB.out.below hb2,Grown.of_below hb2⟩
theorem IV (h0:Ar B0 w0 g T SA) (b N:Nat) (ih:∀(n:Int) (l:List UInt8) (S:Nat→Prop) (w:World),n<N→Below w0.heap.size w0 w→BlS w0.heap.size S b l w→l.length+(txt (arg T n)).length≤1000000000000 →
   Calls Tryz.prog 301 #[.pointer (some ⟨b,0,none⟩),.pointer (some ⟨g,0,none⟩),.int .i64 n] w (Wrote w0.heap.size S b (l++txt (arg T n)) w))
  (n:Int) (l:List UInt8) (S:Nat→Prop) (w:World) (t:Tm) (E:arg T n=some t) (hn:n<(N+1:Nat)) (hb:Below w0.heap.size w0 w) (hB:BlS w0.heap.size S b l w) (hl:l.length+(enc t).length≤1000000000000) :
  Calls Tryz.prog 301 #[.pointer (some ⟨b,0,none⟩),.pointer (some ⟨g,0,none⟩),.int .i64 n] w (Wrote w0.heap.size S b (l++enc t) w):=by
 have hok:=h0.ok;have hgood:=(hok.fine t (rQ E)).1;have HV:=hide (mf (h0.below hb) n);have HH:=hide (fun (A:Option Addr) (c:Nat) (W:World)=>Ju hgood A c W);have HB:=hide hB;have IH:=hide ih;have Eh:=hide E;have Hok:=hide hok;have hSL:=hB.sL;have hSB:=hB.sB;have heta:=OU t;have hlen:=congrArg List.length heta;rw [List.length_append] at hlen;rw [heta];have hwz:=hb.size;clear h0 hB ih E hok heta;have Hn:=hide hn;clear hn;go_enter Tryz.func301,Tryz.ntmps301
 go_wp2_with (first
  | (go_at_call 101;refine HV.out.mono ?_;rintro e w1 hv;obtain ⟨js,A,c,ha,rfl,hown,hb1⟩:=xR Eh.out hv;clear hv;have hz1:=hb1.size)
  | (go_at_call 321;refine (HH.out _ _ _).mono ?_;rintro e w2 ⟨rfl,hb2⟩)
  | fail)
 have hbw:Below w.heap.size w w2:=(hb1.alloc hz1 _).trans (hb2.mono (by simp;omega));have hx2:Blk w2 w1.heap.size 126 #[.int .i64 t.k,.int .i64 t.a,.int .i64 t.b,.string t.s,.slice A t.l.length c]:=(Blk.new w1 _ _).below hb2 (by simp);have hz2:w1.heap.size+1≤w2.heap.size:=by have:=hb2.size;simpa using this
 have HB2:=hide (HB.out.below hbw);have hhl:(head t.k t.a t.b t.s.data.toList t.l.length).length=(bs (head t.k t.a t.b t.s.data.toList t.l.length)).size:=rfl;refine (O8 _ HB2.out (by omega) (by omega)).mono ?_;rintro e w3 ⟨rfl,S3,hB3,hG3⟩
 have hN1:∀i,w.heap.size≤i→i<w2.heap.size→¬ S3 i:=by
  intro i h1 h2 h3;rcases hG3.new i h3 with h4 | h4
  ·have:=hSL i h4
   omega
  ·omega
 have hx3:=hG3.outs_.blk hx2 (fun h=>by have:=hSL _ h;omega);have c4:w3.cell? ⟨w1.heap.size,4,none⟩=some (.slice A t.l.length c):=hx3.cell 4;have hGo:cK S w1 w3:=(cK.of_below ((Below.refl _ w1).alloc (Nat.le_refl _) _)).trans ((cK.of_below hb2).trans hG3.outs_);have HR:=hide (IZ (ns:=js.map Int.ofNat) (w':=w3) (by simpa using hown) hGo (fun i h1 h2 h3=>by have:=hSL i h3;omega));have hG03:Grown S w S3 w3:=(Grown.of_below hbw).trans hG3;have HB3:=hide hB3;have HG03:=hide hG03;have Ha:=hide ha;have hz3:=hG3.size;clear hown hx2 hx3 hGo hb1 hb2 HB2 HH HV HB hG3 hG03 hB3 hbw ha;have hbl:((bs (head t.k t.a t.b t.s.data.toList t.l.length)).data.toList)=head t.k t.a t.b t.s.data.toList t.l.length:=rfl;rw [hbl] at HB3;clear hbl;generalize hH:head t.k t.a t.b t.s.data.toList t.l.length=H at HB3 hlen hhl ⊢
 have htl:t.l.length≤1000000000000:=by
  have:t.l.length≤(encs t.l).length:=NV t.l;omega
 have HHq:=hide hH;clear hhl hH;go_wp2_with fail
 go_loopw [25] (fun vi wr=>∃(i:Nat) (Sr:Nat→Prop),vi=.int .i64 i∧i≤t.l.length∧Hid (BlS w0.heap.size Sr b (l++H++encs (t.l.take i)) wr)∧Hid (Grown S3 w3 Sr wr)) (fun vi _=>t.l.length - (intOf vi).toNat)
 case atStart=>exact ⟨0,S3,rfl,Nat.zero_le _,hide (by simpa [encs] using HB3.out),hide (Grown.refl _ _)⟩
 case round =>
  obtain ⟨i,Sr,rfl,hi,hBr,hGr⟩:=hrel
  by_cases hlt:i<t.l.length
  ·have hii:(i:Int)<t.l.length:=by omega
   have hjl:=Ha.out.len;obtain ⟨c1,hc1,hTc⟩:=Ha.out.at_ (p:=i) (by omega);obtain ⟨ad,rfl,ha1,ha2,hcell0⟩:=HR.out i (js[i]'(by omega):Nat) (by rw [List.getElem?_map,List.getElem?_eq_getElem (by omega)];rfl);have hcell:=hGr.out.outs_.cell hcell0 (by rw [ax];exact hN1 _ ha1 (by omega));obtain ⟨p,rfl,hp⟩:=jA Eh.out
   have hc2:t.l[i]=c1:=by
    rw [List.getElem?_eq_getElem hlt] at hc1;exact Option.some.inj hc1
   obtain ⟨j,hjp,hTj⟩:=Hok.out.sub p t hp c1 (by rw [←hc2];exact List.getElem_mem hlt);have hji:js[i]'(by omega)=j:=rM Hok.out hTc hTj;rw [hji] at hcell;have harg:arg T (j:Int)=some t.l[i]:=by rw [zC,hTj,hc2]
   have htake:=JO hlt;have htl2:=vD t.l (i+1);rw [htake,List.length_append] at htl2;have hI:=hide (IH.out (j:Int) (l++H++encs (t.l.take i)) Sr wr (by have:=Hn.out;omega) (hb.trans ((HG03.out.trans hGr.out).below hwz hSB)) hBr.out (by rw [harg];simp only [txt,List.length_append];omega));rw [harg] at hI;have Ht:=hide htake;clear hjl hc1 hTc hcell0 hp hc2 hTj hji harg htake htl2 hlen hl;go_wp2_with (go_at_call 301;refine hI.out.mono ?_;rintro e w4 ⟨rfl,S4,hB4,hG4⟩);refine ⟨⟨i+1,S4,by go_num,by omega,hide ?_,hide (hGr.out.trans hG4)⟩,by simp [intOf];omega⟩;rw [Ht.out];simpa [txt] using hB4
  ·obtain rfl:i=t.l.length:=by omega
   rw [List.take_length] at hBr;have hii:¬ (t.l.length:Int)<t.l.length:=by omega
   go_wp2;refine bodyPost_ret (results_none rfl _ _ _) rfl ?_;exact ⟨rfl,Sr,by rw [HHq.out];simpa using hBr.out,HG03.out.trans hGr.out⟩
theorem Nn (h0:Ar B0 w0 g T SA) (b:Nat):∀(N:Nat) (n:Int) (l:List UInt8) (S:Nat→Prop) (w:World),n<N→Below w0.heap.size w0 w→BlS w0.heap.size S b l w→l.length+(txt (arg T n)).length≤1000000000000 →
  Calls Tryz.prog 301 #[.pointer (some ⟨b,0,none⟩),.pointer (some ⟨g,0,none⟩),.int .i64 n] w (Wrote w0.heap.size S b (l++txt (arg T n)) w):=by
 intro N
 induction N with
 | zero=>exact fun n l S w hn hb hB hl=>xW h0 b n l S w (O6 (by omega)) hb hB
 | succ N ih =>
  intro n l S w hn hb hB hl
  cases E:arg T n with
  | none =>
   have:=xW h0 b n l S w E hb hB;rwa [E] at this
  | some t =>
   rw [E] at hl;exact IV h0 b N ih n l S w t E hn hb hB hl
end
section
variable {B g : Nat} {w : World} {T : List Tm} {S : Nat → Prop}
theorem EW (h:Ar B w g T S) (n:Int):Calls Tryz.prog 268 #[.pointer (some ⟨g,0,none⟩),.int .i64 n] w (Says (txt (arg T n)) w):=by
 have hlen:=Ni (NS h.ok n);have HP:=hide (fun (W:World) (hb:Below w.heap.size w W) (hB:BlS w.heap.size (fun i=>i=w.heap.size) w.heap.size [] W)=>Nn h w.heap.size (n.toNat+1) n [] _ W (by omega) hb hB (by simp;omega));have HN:=hide (Oq w);clear h hlen;go_enter Tryz.func268,Tryz.ntmps268
 go_wp2_with (first
  | (go_at_call 301;refine (HP.out _ (by exact aa) HN.out).mono ?_;rintro e w1 ⟨rfl,S1,hB1,hG1⟩;have hz1:=hG1.size;have hb1:=hG1.below (B:=w.heap.size) (by simp) (fun i hi=>by omega))
  | (go_at_call 183;refine (uG hB1.bld (by simp at hz1;omega)).mono ?_;rintro e w2 ⟨rfl,hb2⟩))
 go_ret;exact ⟨rfl,((Below.refl _ w).alloc (Nat.le_refl _) _).trans (hb1.trans hb2)⟩
end
end Go.Proofs.YtnhekaepgpbijaaGreatDoor
