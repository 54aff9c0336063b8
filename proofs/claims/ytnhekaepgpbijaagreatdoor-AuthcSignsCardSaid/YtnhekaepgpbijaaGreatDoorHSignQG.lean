/- Several of my texts in one: EncA, Trans, TransL, SignQ. -/
import Derived.Test.YtnhekaepgpbijaaGreatDoorHParseAG
import Derived.Test.YtnhekaepgpbijaaGreatDoorHPut
import Derived.Test.YtnhekaepgpbijaaGreatDoorHMakeAG
import Derived.Test.YtnhekaepgpbijaaGreatDoorHRdrBG
import Derived.Test.YtnhekaepgpbijaaGreatDoorHSignPG
set_option linter.unusedVariables false
set_option linter.unusedSimpArgs false
set_option maxHeartbeats 40000000
set_option maxRecDepth 100000
namespace Go.Proofs.YtnhekaepgpbijaaGreatDoor
open Go.RowKit Go.ChangeShapes Go.WideShapes
theorem run_append_str_at {P:Program} (w:World) (base:Nat) (t u ty e:TypeId) (i:TypeInfo) (ht:P.underlying t=some (.slice e)) (hu:P.underlying u=some .string) (hi:P.info? e=some i) (hz:i.zero=some (.int .u8 0))
  (hsize:i.size=1) (hby:i.bytes=1)
  (v:Value) (n:Nat) (xs:List Value) (hown:w.ownsRow base e 1 v n xs) (s:ByteArray)
  (h63:n+s.size≤maxLen) (hbytes:n+s.size≤140737488355328) (hbase:base≤w.heap.size) :
  ∃v' w',(Builtin.append_ #[t,u] ty #[v,.string s]).run P w=.ok v' w'∧w'.ownsRow base e 1 v' (n+s.size) (xs++Lib.strCells s)∧w.grownBy w' v.ownBlock∧(v'.ownBlock=v.ownBlock∨v'.ownBlock=some w.heap.size):=by
 obtain ⟨v',w',hr,h2,h3,h4⟩:=Lib.run_append_own_string (P:=P) w base t u ty e i ht hu hi hz hsize hby v n xs hown s h63 hbytes hbase
 refine ⟨v',w',hr,h2,h3,?_⟩
 have hsmall:n+s.size≤9223372036854775807:=by simp only [maxLen] at h63;omega
 have hxl:xs.length=n:=by simpa using hown.1
 rcases hown.2 with ⟨rfl,rfl⟩ | ⟨g,cap,cur,rfl,hbg,hg,hnc,hcm,hcs,htake⟩
 ·by_cases hm:s.size=0
  ·rw [h4.2 ⟨rfl,hm⟩]
   exact .inl rfl
  ·have hr2:=run_append_nil_string (P:=P) w t u ty e i (.int .u8 0) ht hu hi hz s (by omega) (by omega) (by rw [hby];omega)
   rw [hr] at hr2
   injection hr2 with e1 e2
   rw [e1]
   exact .inr rfl
 ·by_cases hroom:n+s.size≤cap
  ·have hcs':cur.size=cap:=by simpa using hcs
   have hr2:=Lib.run_append_room_string (P:=P) w t u ty e i ht hu hi hsize g n cap cur hg s hroom (by omega)
   rw [hr] at hr2
   injection hr2 with e1 e2
   rw [e1]
   exact .inl rfl
  ·have holds:∀j u,xs[j]?=some u→w.cell? ((⟨g,0,none⟩:Addr).add j)=some u:=hown.cells (g:=g) rfl
   have hr2:=Lib.run_append_grow_string (P:=P) w t u ty e i (.int .u8 0) ht hu hi hz ⟨g,0,none⟩ n cap xs (by rw [hsize];simpa using hxl) holds s (by omega) (by omega) (by rw [hby];exact growslice_fits (by omega) (by omega))
   rw [hr] at hr2
   injection hr2 with e1 e2
   rw [e1]
   exact .inr rfl
theorem wpList_append_str {P:Program} {w:World} {ops:Array Oper} {rest:List Oper} {o:Oper} {a:Act} {Q:Exit→Act→World→Prop} (hgd:o.guard=none) (sl x:Operand) (t u:TypeId)
  (ho:o.op=.call { callee:=.builtin .append,args:=#[sl,x],argTypes:=#[t,u] })
  (base:Nat) (e:TypeId) (i:TypeInfo) (ht:P.underlying t=some (.slice e)) (hu:P.underlying u=some .string) (hi:P.info? e=some i) (hz:i.zero=some (.int .u8 0))
  (hsize:i.size=1) (hby:i.bytes=1)
  (v:Value) (n:Nat) (xs:List Value) (hs:a.eval sl=v) (hown:w.ownsRow base e 1 v n xs) (s:ByteArray) (hx:a.eval x=.string s)
  (h63:n+s.size≤maxLen) (hbytes:n+s.size≤140737488355328) (hbase:base≤w.heap.size)
  (h:∀v' w',w'.ownsRow base e 1 v' (n+s.size) (xs++Lib.strCells s)→w.grownBy w' v.ownBlock→(v'.ownBlock=v.ownBlock∨v'.ownBlock=some w.heap.size)→wpList P ops Q rest (a.put o.dst v') w'):wpList P ops Q (o :: rest) a w:=by
 refine wpList_plain hgd fun K hK=>?_
 obtain ⟨v',w',hr,h2,h3,h4⟩:=run_append_str_at (P:=P) w base t u o.type e i ht hu hi hz hsize hby v n xs hown s h63 hbytes hbase
 unfold Oper.wp execOp
 simp only [ho,resolve,invoke,builtin,Sem.run_bind,Sem.run_pure,Result.andThen_ok,List.map_toArray,List.map_cons,List.map_nil,hs,hx,hr]
 exact hK _ _ (h v' w' h2 h3 h4)
structure BlS (B:Nat) (S:Nat→Prop) (b:Nat) (l:List UInt8) (w:World):Prop where
 ex:∃p v,(p=.pointer none∨p=.pointer (some ⟨b,0,none⟩))∧Lib.BuilderAt 257 5 B b p (Lib.byteCells l) w∧Blk w b 257 #[p,v]∧∀i,v.ownBlock=some i→S i
 sb:S b
 sB:∀i,S i→B≤i
 sL:∀i,S i→i<w.heap.size
theorem Grown.row {S0 S:Nat→Prop} {w wx wz:World} {row:Option Nat} (h:Grown S0 w S wx) (k:wx.grownBy wz row) (hr:∀b,row=some b→S b):Grown S0 w S wz :=
 ⟨k.os.trans h.os,k.tape.trans h.tape,k.output.trans h.output,Nat.le_trans h.size k.size,fun i hi hn=>(k.block i (Nat.lt_of_lt_of_le hi h.size) (fun e=>by
  rcases h.new i (hr i e.symm) with h3 | h3
  ·exact hn h3
  ·omega)).trans (h.block i hi hn),h.sub,h.new⟩
theorem Grown.widen {S0 S S2:Nat→Prop} {w wx:World} (h:Grown S0 w S wx) (h1:∀i,S i→S2 i) (h2:∀i,S2 i→S i∨w.heap.size≤i):Grown S0 w S2 wx :=
 ⟨h.os,h.tape,h.output,h.size,h.block,fun i hi=>h1 i (h.sub i hi),fun i hi=>by
  rcases h2 i hi with h3 | h3
  ·exact h.new i h3
  ·exact .inr h3⟩
section
variable {B b : Nat} {S : Nat → Prop} {l : List UInt8} {w w' : World}
theorem BlS.bld (h:BlS B S b l w):Bld B b l w:=by
 obtain ⟨p,v,hp,hb,_,_⟩:=h.ex
 rcases hp with rfl | rfl
 ·exact .inl hb
 ·exact .inr hb
theorem BlS.below (h:BlS B S b l w) (hb:Below w.heap.size w w'):BlS B S b l w':=by
 obtain ⟨p,v,hp,hB,hk,hs⟩:=h.ex
 refine ⟨⟨p,v,hp,?_,hk.below hb hk.lt,hs⟩,h.sb,h.sB,fun i hi=>Nat.lt_of_lt_of_le (h.sL i hi) hb.size⟩
 obtain ⟨h1,v',h2,h3,h4⟩:=hB
 exact ⟨h1,v',Blk.below (cs:=#[p,v']) h2 hb (Blk.lt (cs:=#[p,v']) h2),h3.kept (only_of_below hb none) (by cases v'.ownBlock <;> simp),h4⟩
theorem bls_new (w:World):BlS w.heap.size (fun i=>i=w.heap.size) w.heap.size [] (w.alloc (.cells #[.pointer none,.slice none 0 0] 257)) :=
 ⟨⟨_,_,.inl rfl,⟨Nat.le_refl _,_,heap_alloc_new w _,World.ownsRow_nil _ _ _ _,by simp [Value.ownBlock]⟩,Blk.new w _ _,fun i hi=>by simp [Value.ownBlock] at hi⟩,rfl,fun i hi=>by omega,fun i hi=>by simp;omega⟩
theorem bcopyS {p v:Value} {bs:List Value} (hp:p=.pointer none∨p=.pointer (some ⟨b,0,none⟩)) (h:Lib.BuilderAt 257 5 B b p bs w) (hk:Blk w b 257 #[p,v]) :
  Calls Tryz.prog 246 #[.pointer (some ⟨b,0,none⟩)] w fun e w'=>e=.returned (.tuple #[])∧Lib.BuilderAt 257 5 B b (.pointer (some ⟨b,0,none⟩)) bs w'∧Blk w' b 257 #[.pointer (some ⟨b,0,none⟩),v]∧w.grownBy w' (some b):=by
 rcases hp with rfl | rfl
 ·refine (bcopy_fresh b w h.cell0 h.shape h.frozen0).mono ?_
  rintro e w' ⟨rfl,rfl⟩
  exact ⟨rfl,h.used _,by simpa using hk.set_ 0 (.pointer (some ⟨b,0,none⟩)),only_setCell (only_refl w _) (.inl rfl) _⟩
 ·refine (bcopy_used b w h.cell0).mono ?_
  rintro e w' ⟨rfl,rfl⟩
  exact ⟨rfl,h,hk,only_refl _ _⟩
theorem bwriteS (s:ByteArray) (h:BlS B S b l w) (hlen:l.length+s.size≤140737488355328) (hBw:B≤w.heap.size) :
  Calls Tryz.prog 182 #[.pointer (some ⟨b,0,none⟩),.string s] w fun e w'=>e=.returned (.tuple #[.int .i64 s.size,.nilIface])∧∃S',BlS B S' b (l++s.data.toList) w'∧Grown S w S' w':=by
 obtain ⟨i0,hi,hz0,hz1,hz2⟩:=info_parts infoByte
 obtain ⟨p,v,hp,hB,hk,hs⟩:=h.ex
 have hbc:(Lib.byteCells l).length=l.length:=by simp [Lib.byteCells]
 have hS:=h.sb
 have hSB:=h.sB
 have hSL:=h.sL
 have Hh:=hide h
 clear h
 go_enter Tryz.func182,Tryz.ntmps182
 go_wp2_with (go_at_call 246;refine (bcopyS hp hB hk).mono ?_)
 rintro e w1 ⟨rfl,h1,hk1,hg1⟩
 obtain ⟨hB,v2,hbk,hown,hne⟩:=h1
 obtain rfl:v2=v:=by
  have:=hbk.symm.trans hk1
  simp at this
  exact this
 have c0:w1.cell? ⟨b,0,none⟩=some (.pointer (some ⟨b,0,none⟩)):=by rw [Lib.cell_of_heap hbk];rfl
 have c1:w1.cell? ⟨b,1,none⟩=some v2:=by rw [Lib.cell_of_heap hbk];rfl
 go_wp2_with (at_builtin;refine wpList_append_str rfl _ _ 211 9 rfl B 5 i0 Tryz.underlying211 Tryz.underlying9 hi hz0 hz1 hz2 _ _ _ rfl hown s rfl ?c3 ?c4 ?c5 ?_)
 case c3=>unfold maxLen;omega
 case c4=>omega
 case c5=>have:=hg1.size;omega
 intro v' w2 hown' hgrow hor
 have hb2:=Blk.grown (g:=b) hk1 hgrow (fun e=>hne e.symm)
 have d0:w2.cell? ⟨b,0,none⟩=some (.pointer (some ⟨b,0,none⟩)):=by rw [Lib.cell_of_heap hb2];rfl
 have d1:w2.cell? ⟨b,1,none⟩=some v2:=by rw [Lib.cell_of_heap hb2];rfl
 have f1:w2.frozen? ⟨b,1,none⟩=false:=Lib.frozen_of_heap hb2 1
 obtain ⟨ao,n',cap,rfl⟩:∃ao n' cap,v'=.slice ao n' cap:=by
  rcases hown'.2 with ⟨hv,_⟩ | ⟨g,cap,cur,hv,_⟩
  ·exact ⟨_,_,_,hv⟩
  ·exact ⟨_,_,_,hv⟩
 go_wp2
 go_ret2
 have hG1:Grown S w S w1:=(Grown.refl S w).row hg1 (fun b' e=>by cases e;exact hS)
 have hG2:Grown S w S w2:=hG1.row hgrow hs
 have hz:w.heap.size≤w1.heap.size:=hg1.size
 have hnew:∀i,(Value.slice ao n' cap).ownBlock=some i→S i∨w.heap.size≤i:=by
  intro i hi
  rcases hor with h | h
  ·exact .inl (hs i (h.symm.trans hi))
  ·rw [h] at hi
   cases hi
   exact .inr hz
 have hG3:Grown S w (fun i=>S i∨(Value.slice ao n' cap).ownBlock=some i) (w2.setCell ⟨b,1,none⟩ (.slice ao n' cap)) :=
  (hG2.row (only_setCell (only_refl w2 (some b)) (.inl rfl) _) (fun b' e=>by cases e;exact hS)).widen (fun i hi=>.inl hi) (fun i hi=>by
   rcases hi with hi | hi
   ·exact .inl hi
   ·exact hnew i hi)
 refine ⟨rfl,_,⟨⟨_,_,.inr rfl,?_,by simpa using hb2.set_ 1 (.slice ao n' cap),fun i hi=>.inr hi⟩,.inl hS,?_,?_⟩,hG3⟩
 ·have:=Lib.BuilderAt.put (T:=257) (e:=5) hB hb2 (bs':=Lib.byteCells l++Lib.strCells s) (by rw [List.length_append,hbc,Lib.strCells_length];exact hown') (by decide)
  rw [←bytes_app]
  exact this
 ·rintro i (hi | hi)
  ·exact hSB i hi
  ·exact (hown'.lt i hi).1
 ·rintro i (hi | hi)
  ·have:=hSL i hi
   have:=hG2.size
   simp only [World.size_setCell]
   omega
  ·have:=(hown'.lt i hi).2
   simpa only [World.size_setCell] using this
end
end Go.Proofs.YtnhekaepgpbijaaGreatDoor

namespace Go.Proofs.YtnhekaepgpbijaaGreatDoor
open Go.RowKit Go.ChangeShapes Go.WideShapes Go.Sort
theorem enc_eta (t:Tm):enc t=head t.k t.a t.b t.s.data.toList t.l.length++encs t.l:=by
 cases t
 simp [enc,Tm.k,Tm.a,Tm.b,Tm.s,Tm.l]
theorem encs_take {l:List Tm} {i:Nat} (h:i<l.length):encs (l.take (i+1))=encs (l.take i)++enc l[i]:=by
 rw [List.take_succ_eq_append_getElem h,encs_append]
 simp [encs]
theorem encs_take_len (l:List Tm) (i:Nat):(encs (l.take i)).length≤(encs l).length:=by
 have h:encs l=encs (l.take i)++encs (l.drop i):=by rw [←encs_append,List.take_append_drop]
 rw [h,List.length_append]
 omega
theorem view_none {T:List Tm} {n:Int} {w w':World} {e:Ending} (h:arg T n=none) (hv:Viewed T n w e w') :
  e=.returned (.tuple #[.agg #[.int .i64 0,.int .i64 0,.int .i64 0,.string ⟨#[]⟩,.slice none 0 0],.bool false])∧Below w.heap.size w w':=by
 obtain ⟨hv | ⟨t,js,av,h1,_⟩,hb⟩:=hv
 ·exact ⟨hv.2,hb⟩
 ·rw [h] at h1;cases h1
theorem view_some {T:List Tm} {n:Int} {w w':World} {e:Ending} {t:Tm} (h:arg T n=some t) (hv:Viewed T n w e w') :
  ∃js A c,Args T t.l js∧e=.returned (.tuple #[.agg #[.int .i64 t.k,.int .i64 t.a,.int .i64 t.b,.string t.s,.slice A t.l.length c],.bool true])∧w'.ownsRow w.heap.size 39 1 (.slice A t.l.length c) js.length ((js.map Int.ofNat).map (Value.int .i64))∧Below w.heap.size w w':=by
 obtain ⟨hv | ⟨u,js,av,h1,ha,rfl,ho⟩,hb⟩:=hv
 ·rw [h] at hv;cases hv.1
 ·rw [h] at h1
  cases h1
  obtain ⟨A,c,rfl⟩:=own_sl ho
  rw [ha.len] at ho ⊢
  exact ⟨js,A,c,ha,rfl,by rw [ha.len];exact ho,hb⟩
theorem encs_len (l:List Tm):l.length≤(encs l).length:=by
 induction l with
 | nil=>exact Nat.le_refl _
 | cons t l ih =>
  have h1:1≤(enc t).length:=List.length_pos_iff.2 (enc_ne t)
  simp only [encs,List.length_append,List.length_cons]
  omega
def Wrote (B:Nat) (S:Nat→Prop) (b:Nat) (l:List UInt8) (w:World) (e:Ending) (w':World):Prop :=
 e=.returned (.tuple #[])∧∃S',BlS B S' b l w'∧Grown S w S' w'
theorem Grown.outs_ {S S':Nat→Prop} {w w':World} (h:Grown S w S' w'):Outs S w w':=⟨h.os,h.tape,h.output,h.size,h.block⟩
theorem row_cells {B:Nat} {w w':World} {S:Nat→Prop} {A:Option Addr} {n c:Nat} {ns:List Int} (h:w.ownsRow B 39 1 (.slice A n c) ns.length (ns.map (Value.int .i64))) (ho:Outs S w w') (hS:∀i,B≤i→i<w.heap.size→¬ S i) :
  ∀(k:Nat) (j:Int),ns[k]?=some j→∃ad,A=some ad∧B≤ad.block∧ad.block<w.heap.size∧w'.cell? (ad.add k)=some (.int .i64 j):=by
 intro k j hk
 have hkl:=(List.getElem?_eq_some_iff.1 hk).1
 obtain ⟨gb,cap,hv,hb,hlt⟩:=h.form (by omega)
 have hc:=h.cells (g:=gb) (by rw [hv];rfl) k (.int .i64 j) (by rw [List.getElem?_map,hk];rfl)
 have hA:A=some ⟨gb,0,none⟩:=by injection hv
 exact ⟨_,hA,hb,hlt,ho.cell hc (by rw [block_of_add];exact hS gb hb hlt)⟩
section
variable {B0 g : Nat} {w0 : World} {T : List Tm} {SA : Nat → Prop}
theorem cput_none (h0:Ar B0 w0 g T SA) (b:Nat) (n:Int) (l:List UInt8) (S:Nat→Prop) (w:World) (E:arg T n=none) (hb:Below w0.heap.size w0 w) (hB:BlS w0.heap.size S b l w) :
  Calls Tryz.prog 301 #[.pointer (some ⟨b,0,none⟩),.pointer (some ⟨g,0,none⟩),.int .i64 n] w (Wrote w0.heap.size S b (l++txt (arg T n)) w):=by
 have HV:=hide (aview_any (h0.below hb) n)
 have HB:=hide hB
 have Eh:=hide E
 rw [E]
 clear E h0 hB
 go_enter Tryz.func301,Tryz.ntmps301
 go_wp2_with (go_at_call 101;refine HV.out.mono ?_;rintro e w1 hv;obtain ⟨rfl,hb1⟩:=view_none Eh.out hv;clear hv)
 refine bodyPost_ret (results_none rfl _ _ _) rfl ?_
 have hb2:Below w.heap.size w (w1.alloc (.cells #[.int .i64 0,.int .i64 0,.int .i64 0,.string ⟨#[]⟩,.slice none 0 0] 126)):=hb1.alloc hb1.size _
 exact ⟨rfl,S,by simpa [txt] using HB.out.below hb2,Grown.of_below hb2⟩
theorem cput_some (h0:Ar B0 w0 g T SA) (b N:Nat) (ih:∀(n:Int) (l:List UInt8) (S:Nat→Prop) (w:World),n<N→Below w0.heap.size w0 w→BlS w0.heap.size S b l w→l.length+(txt (arg T n)).length≤1000000000000 →
   Calls Tryz.prog 301 #[.pointer (some ⟨b,0,none⟩),.pointer (some ⟨g,0,none⟩),.int .i64 n] w (Wrote w0.heap.size S b (l++txt (arg T n)) w))
  (n:Int) (l:List UInt8) (S:Nat→Prop) (w:World) (t:Tm) (E:arg T n=some t) (hn:n<(N+1:Nat)) (hb:Below w0.heap.size w0 w) (hB:BlS w0.heap.size S b l w) (hl:l.length+(enc t).length≤1000000000000) :
  Calls Tryz.prog 301 #[.pointer (some ⟨b,0,none⟩),.pointer (some ⟨g,0,none⟩),.int .i64 n] w (Wrote w0.heap.size S b (l++enc t) w):=by
 have hok:=h0.ok
 have hgood:=(hok.fine t (arg_mem E)).1
 have HV:=hide (aview_any (h0.below hb) n)
 have HH:=hide (fun (A:Option Addr) (c:Nat) (W:World)=>cHead_any hgood A c W)
 have HB:=hide hB
 have IH:=hide ih
 have Eh:=hide E
 have Hok:=hide hok
 have hSL:=hB.sL
 have hSB:=hB.sB
 have heta:=enc_eta t
 have hlen:=congrArg List.length heta
 rw [List.length_append] at hlen
 rw [heta]
 have hwz:=hb.size
 clear h0 hB ih E hok heta
 have Hn:=hide hn
 clear hn
 go_enter Tryz.func301,Tryz.ntmps301
 go_wp2_with (first
  | (go_at_call 101;refine HV.out.mono ?_;rintro e w1 hv;obtain ⟨js,A,c,ha,rfl,hown,hb1⟩:=view_some Eh.out hv;clear hv;have hz1:=hb1.size)
  | (go_at_call 321;refine (HH.out _ _ _).mono ?_;rintro e w2 ⟨rfl,hb2⟩)
  | fail)
 have hbw:Below w.heap.size w w2:=(hb1.alloc hz1 _).trans (hb2.mono (by simp;omega))
 have hx2:Blk w2 w1.heap.size 126 #[.int .i64 t.k,.int .i64 t.a,.int .i64 t.b,.string t.s,.slice A t.l.length c]:=(Blk.new w1 _ _).below hb2 (by simp)
 have hz2:w1.heap.size+1≤w2.heap.size:=by have:=hb2.size;simpa using this
 have HB2:=hide (HB.out.below hbw)
 have hhl:(head t.k t.a t.b t.s.data.toList t.l.length).length=(bs (head t.k t.a t.b t.s.data.toList t.l.length)).size:=rfl
 refine (bwriteS _ HB2.out (by omega) (by omega)).mono ?_
 rintro e w3 ⟨rfl,S3,hB3,hG3⟩
 have hN1:∀i,w.heap.size≤i→i<w2.heap.size→¬ S3 i:=by
  intro i h1 h2 h3
  rcases hG3.new i h3 with h4 | h4
  ·have:=hSL i h4
   omega
  ·omega
 have hx3:=hG3.outs_.blk hx2 (fun h=>by have:=hSL _ h;omega)
 have c4:w3.cell? ⟨w1.heap.size,4,none⟩=some (.slice A t.l.length c):=hx3.cell 4
 have hGo:Outs S w1 w3:=(Outs.of_below ((Below.refl _ w1).alloc (Nat.le_refl _) _)).trans ((Outs.of_below hb2).trans hG3.outs_)
 have HR:=hide (row_cells (ns:=js.map Int.ofNat) (w':=w3) (by simpa using hown) hGo (fun i h1 h2 h3=>by have:=hSL i h3;omega))
 have hG03:Grown S w S3 w3:=(Grown.of_below hbw).trans hG3
 have HB3:=hide hB3
 have HG03:=hide hG03
 have Ha:=hide ha
 have hz3:=hG3.size
 clear hown hx2 hx3 hGo hb1 hb2 HB2 HH HV HB hG3 hG03 hB3 hbw ha
 have hbl:((bs (head t.k t.a t.b t.s.data.toList t.l.length)).data.toList)=head t.k t.a t.b t.s.data.toList t.l.length:=rfl
 rw [hbl] at HB3
 clear hbl
 generalize hH:head t.k t.a t.b t.s.data.toList t.l.length=H at HB3 hlen hhl ⊢
 have htl:t.l.length≤1000000000000:=by
  have:t.l.length≤(encs t.l).length:=encs_len t.l
  omega
 have HHq:=hide hH
 clear hhl hH
 go_wp2_with fail
 go_loopw [25] (fun vi wr=>∃(i:Nat) (Sr:Nat→Prop),vi=.int .i64 i∧i≤t.l.length∧Hid (BlS w0.heap.size Sr b (l++H++encs (t.l.take i)) wr)∧Hid (Grown S3 w3 Sr wr)) (fun vi _=>t.l.length - (intOf vi).toNat)
 case atStart=>exact ⟨0,S3,rfl,Nat.zero_le _,hide (by simpa [encs] using HB3.out),hide (Grown.refl _ _)⟩
 case round =>
  obtain ⟨i,Sr,rfl,hi,hBr,hGr⟩:=hrel
  by_cases hlt:i<t.l.length
  ·have hii:(i:Int)<t.l.length:=by omega
   have hjl:=Ha.out.len
   obtain ⟨c1,hc1,hTc⟩:=Ha.out.at_ (p:=i) (by omega)
   obtain ⟨ad,rfl,ha1,ha2,hcell0⟩:=HR.out i (js[i]'(by omega):Nat) (by rw [List.getElem?_map,List.getElem?_eq_getElem (by omega)];rfl)
   have hcell:=hGr.out.outs_.cell hcell0 (by rw [block_of_add];exact hN1 _ ha1 (by omega))
   obtain ⟨p,rfl,hp⟩:=arg_some Eh.out
   have hc2:t.l[i]=c1:=by
    rw [List.getElem?_eq_getElem hlt] at hc1
    exact Option.some.inj hc1
   obtain ⟨j,hjp,hTj⟩:=Hok.out.sub p t hp c1 (by rw [←hc2];exact List.getElem_mem hlt)
   have hji:js[i]'(by omega)=j:=get_inj Hok.out hTc hTj
   rw [hji] at hcell
   have harg:arg T (j:Int)=some t.l[i]:=by rw [arg_at,hTj,hc2]
   have htake:=encs_take hlt
   have htl2:=encs_take_len t.l (i+1)
   rw [htake,List.length_append] at htl2
   have hI:=hide (IH.out (j:Int) (l++H++encs (t.l.take i)) Sr wr (by have:=Hn.out;omega) (hb.trans ((HG03.out.trans hGr.out).below hwz hSB)) hBr.out (by rw [harg];simp only [txt,List.length_append];omega))
   rw [harg] at hI
   have Ht:=hide htake
   clear hjl hc1 hTc hcell0 hp hc2 hTj hji harg htake htl2 hlen hl
   go_wp2_with (go_at_call 301;refine hI.out.mono ?_;rintro e w4 ⟨rfl,S4,hB4,hG4⟩)
   refine ⟨⟨i+1,S4,by go_num,by omega,hide ?_,hide (hGr.out.trans hG4)⟩,by simp [intOf];omega⟩
   rw [Ht.out]
   simpa [txt] using hB4
  ·obtain rfl:i=t.l.length:=by omega
   rw [List.take_length] at hBr
   have hii:¬ (t.l.length:Int)<t.l.length:=by omega
   go_wp2
   refine bodyPost_ret (results_none rfl _ _ _) rfl ?_
   exact ⟨rfl,Sr,by rw [HHq.out];simpa using hBr.out,HG03.out.trans hGr.out⟩
theorem cput_any (h0:Ar B0 w0 g T SA) (b:Nat):∀(N:Nat) (n:Int) (l:List UInt8) (S:Nat→Prop) (w:World),n<N→Below w0.heap.size w0 w→BlS w0.heap.size S b l w→l.length+(txt (arg T n)).length≤1000000000000 →
  Calls Tryz.prog 301 #[.pointer (some ⟨b,0,none⟩),.pointer (some ⟨g,0,none⟩),.int .i64 n] w (Wrote w0.heap.size S b (l++txt (arg T n)) w):=by
 intro N
 induction N with
 | zero=>exact fun n l S w hn hb hB hl=>cput_none h0 b n l S w (arg_neg (by omega)) hb hB
 | succ N ih =>
  intro n l S w hn hb hB hl
  cases E:arg T n with
  | none =>
   have:=cput_none h0 b n l S w E hb hB
   rwa [E] at this
  | some t =>
   rw [E] at hl
   exact cput_some h0 b N ih n l S w t E hn hb hB hl
end
section
variable {B g : Nat} {w : World} {T : List Tm} {S : Nat → Prop}
theorem encode_any (h:Ar B w g T S) (n:Int):Calls Tryz.prog 268 #[.pointer (some ⟨g,0,none⟩),.int .i64 n] w (Says (txt (arg T n)) w):=by
 have hlen:=tx_len (arg_fine h.ok n)
 have HP:=hide (fun (W:World) (hb:Below w.heap.size w W) (hB:BlS w.heap.size (fun i=>i=w.heap.size) w.heap.size [] W)=>cput_any h w.heap.size (n.toNat+1) n [] _ W (by omega) hb hB (by simp;omega))
 have HN:=hide (bls_new w)
 clear h hlen
 go_enter Tryz.func268,Tryz.ntmps268
 go_wp2_with (first
  | (go_at_call 301;refine (HP.out _ (by exact bel_by) HN.out).mono ?_;rintro e w1 ⟨rfl,S1,hB1,hG1⟩;have hz1:=hG1.size;have hb1:=hG1.below (B:=w.heap.size) (by simp) (fun i hi=>by omega))
  | (go_at_call 183;refine (bld_string hB1.bld (by simp at hz1;omega)).mono ?_;rintro e w2 ⟨rfl,hb2⟩))
 go_ret
 exact ⟨rfl,((Below.refl _ w).alloc (Nat.le_refl _) _).trans (hb1.trans hb2)⟩
end
theorem DataP.from_ {B g:Nat} {w w2 w':World} {T:List Tm} {S:Nat→Prop} {os:List (Option Tm)} {e:Ending} (h:DataP B w2 g T S os e w') (hb:Below w.heap.size w w2):DataP B w g T S os e w':=by
 obtain ⟨T',S',v,h1,⟨⟨ns,h2,h2'⟩,h2''⟩,h3,h4,h5,h6⟩:=h
 exact ⟨T',S',v,h1,⟨⟨ns,own_base h2 hb.size,h2'⟩,h2''⟩,h3,h4,h5,(Grown.of_below hb).trans h6⟩
theorem DataP.nil_ {B g:Nat} {w w':World} {T:List Tm} {S:Nat→Prop} (h:Ar B w g T S) (hb:Below w.heap.size w w'):DataP B w g T S [] (.returned (.slice none 0 0)) w' :=
 ⟨T,S,_,rfl,ido_nil _ _ _ _,List.prefix_refl _,Nat.le_refl _,h.below hb,Grown.of_below hb⟩
structure PFit (p:PartsP):Prop where
 w0:p.w0<4294967296
 w1:p.w1<4294967296
 w2:p.w2<4294967296
 v0:p.v0.size≤1000000
 v1:p.v1.size≤1000000
 v2:p.v2.size≤1000000
 v3:p.v3.size≤1000000
 gp:p.gp.size≤300000
 gg:p.gg.size≤300000
section
variable {B g : Nat} {w : World} {T : List Tm} {S : Nat → Prop}
theorem DataP.open_ {os:List (Option Tm)} {e:Ending} {w':World} (h:DataP B w g T S os e w'):∃T' S' A c,e=.returned (.slice A os.length c)∧IdO w.heap.size w' T' os (.slice A os.length c) S'∧T <+: T'∧T'.length≤T.length+os.length∧Ar B w' g T' S'∧Grown S w S' w':=by
 obtain ⟨T',S',v,h1,h2,h3⟩:=h
 obtain ⟨A,c,rfl⟩:=h2.sl
 exact ⟨T',S',A,c,h1,h2,h3⟩
end
theorem Idns.app {T:List Tm} {ms ms':List (Option Tm)} {ns ns':List Int} (h:Idns T ms ns) (h':Idns T ms' ns'):Idns T (ms++ms') (ns++ns'):=by
 refine ⟨by simp [h.1,h'.1],fun i o n h1 h2=>?_⟩
 rcases Nat.lt_or_ge i ms.length with hlt | hge
 ·rw [List.getElem?_append_left hlt] at h1
  rw [List.getElem?_append_left (by rw [h.1];exact hlt)] at h2
  exact h.2 i o n h1 h2
 ·rw [List.getElem?_append_right hge] at h1
  rw [List.getElem?_append_right (by rw [h.1];exact hge),h.1] at h2
  exact h'.2 _ o n h1 h2
theorem idns_one {T:List Tm} {o:Option Tm} {n:Int} (h:Idn T o n):Idns T [o] [n]:=(idns_nil T).snoc h
theorem ido_app {B g:Nat} {w wx w':World} {T1:List Tm} {S S1:Nat→Prop} {os1 os2:List (Option Tm)} {ns ms:List Int} {v v':Value} {k:Nat}
  (ho:wx.ownsRow w.heap.size 39 1 v os1.length (ns.map (Value.int .i64))) (hi1:Idns T1 os1 ns) (hout:∀i,v.ownBlock=some i→¬ S1 i) (hi2:Idns T1 os2 ms) (hk:Kp B w g T1 S S1 wx)
  (hown:w'.ownsRow w.heap.size 39 1 v' k (ns.map (Value.int .i64)++ms.map (Value.int .i64))) (hkk:k=os1.length+os2.length) (hgr:wx.grownBy w' v.ownBlock) (hor:v'.ownBlock=v.ownBlock∨v'.ownBlock=some wx.heap.size) :
  IdO w.heap.size w' T1 (os1++os2) v' S1∧Kp B w g T1 S S1 w':=by
 subst hkk
 refine ⟨⟨⟨ns++ms,by simpa using hown,hi1.app hi2⟩,at_new hor hout hk.ar.sL⟩,hk.step hgr fun b e=>⟨(ho.lt b e).1,hout b e⟩⟩
def DoneL (B:Nat) (w:World) (g:Nat) (T:List Tm) (S:Nat→Prop) (o:Option Tm) (m:Nat) (e:Ending) (w':World):Prop :=
 ∃T' n S',e=.returned (.int .i64 n)∧Idn T' o n∧T <+: T'∧T'.length≤T.length+m∧Ar B w' g T' S'∧Grown S w S' w'
def LstI (B:Nat) (w:World) (g:Nat) (T:List Tm) (S:Nat→Prop) (os:List (Option Tm)) (m:Nat) (v:Value) (wx:World):Prop :=
 ∃T' S' A c,v=.slice A os.length c∧IdO w.heap.size wx T' os v S'∧T <+: T'∧T'.length≤T.length+m∧Kp B w g T' S S' wx
section
variable {B g : Nat} {w : World} {T : List Tm} {S : Nat → Prop}
theorem Kp.below_ {S0:Nat→Prop} {wx W:World} (h:Kp B w g T S0 S wx) (hb:Below wx.heap.size wx W):Kp B w g T S0 S W:=⟨h.ar.below hb,h.grown.trans (Grown.of_below hb)⟩
theorem lst_app {x6 wx w7:World} {T9:List Tm} {S9:Nat→Prop} {os os2:List (Option Tm)} {ns ms:List Int} {A9 A7:Option Addr} {n9 c9 c7 k m:Nat}
  (h9:IdO w.heap.size x6 T9 os (.slice A9 n9 c9) S9∧T <+: T9∧T9.length≤T.length+m∧Ar B x6 g T9 S9∧Grown S w S9 x6) (hb:Below x6.heap.size x6 wx)
  (ho:wx.ownsRow w.heap.size 39 1 (.slice A9 n9 c9) os.length (ns.map (Value.int .i64))) (hid:Idns T9 os ns) (hi2:Idns T9 os2 ms)
  (hown:w7.ownsRow w.heap.size 39 1 (.slice A7 k c7) k (ns.map (Value.int .i64)++ms.map (Value.int .i64))) (hkk:k=os.length+os2.length) (hgr:wx.grownBy w7 (Value.slice A9 n9 c9).ownBlock) (hor:(Value.slice A7 k c7).ownBlock=(Value.slice A9 n9 c9).ownBlock∨(Value.slice A7 k c7).ownBlock=some wx.heap.size) :
  LstI B w g T S (os++os2) m (.slice A7 k c7) w7:=by
 obtain ⟨h1,h2,h3,h4,h5⟩:=h9
 have hk:Kp B w g T9 S S9 wx:=Kp.below_ ⟨h4,h5⟩ hb
 obtain ⟨h6,h7⟩:=ido_app ho hid h1.out hi2 hk hown hkk hgr hor
 exact ⟨T9,S9,A7,c7,by rw [List.length_append,hkk],h6,h2,h3,h7⟩
theorem blk_at {W W':World} {b:Nat} {t:TypeId} {cs:Array Value} (hb:b=W.heap.size) (h:Below (W.heap.size+1) (W.alloc (.cells cs t)) W'):Blk W' b t cs:=by
 subst hb
 exact (Blk.new W t cs).below h (Nat.lt_succ_self _)
theorem DataP.open2 {os:List (Option Tm)} {e:Ending} {w':World} (h:DataP B w g T S os e w'):∃T' S' A c n ns,n=os.length∧e=.returned (.slice A n c)∧w'.ownsRow w.heap.size 39 1 (.slice A n c) n (ns.map (Value.int .i64))∧Idns T' os ns∧T <+: T'∧T'.length≤T.length+os.length∧Ar B w' g T' S'∧Grown S w S' w':=by
 obtain ⟨T',S',A,c,h1,h2,h3,h4,h5,h6⟩:=h.open_
 obtain ⟨ns,h7,h8⟩:=h2.ids
 exact ⟨T',S',A,c,_,ns,rfl,h1,h7,h8,h3,h4,h5,h6⟩
end
theorem blk_own {w:World} {b base n:Nat} {e:TypeId} {cs:Array Value} {xs:List Value} (h:Blk w b e cs) (hb:base≤b) (hn:cs.size=n) (hm:n≤maxLen) (hx:cs.toList=xs):w.ownsRow base e 1 (.slice (some ⟨b,0,none⟩) n n) n xs:=by
 subst hx
 refine ⟨by simpa using hn,.inr ⟨b,n,cs,rfl,hb,h,Nat.le_refl _,hm,by omega,?_⟩⟩
 rw [List.take_of_length_le (by simp;omega)]
section
variable {B g : Nat} {w : World} {T : List Tm} {S : Nat → Prop}
theorem sdata_blk (h:Use B w g T S) {W:World} (hb:Below w.heap.size w W) (ss:List ByteArray) (hz:∀s∈ss,s.size≤1000000) (hl:ss.length≤1000) (hT:T.length+ss.length≤1000000000) (b:Nat) (t:TypeId) (C:Array Value) (hC:C=(ss.map Value.string).toArray) (hB:Blk W b t C) (hbw:w.heap.size≤b) (n:Nat) (hn:n=ss.length) (os:List (Option Tm)) (ho:os=ss.map tData) :
  Calls Tryz.prog 185 #[.pointer (some ⟨g,0,none⟩),.slice (some ⟨b,0,none⟩) n n] W (DataP B W g T S os):=by
 subst hC hn ho
 have hs:Sl b W 1 (some ⟨b,0,none⟩) ss.length (ss.map Value.string):=by
  refine ⟨by simp,fun _=>⟨_,rfl,Nat.le_refl _,hB.lt,fun j u hu=>?_⟩⟩
  rw [add_zero_,hB.cell j]
  simpa using hu
 exact sdata_any (h.below hb) hs (fun i hi=>Nat.lt_of_lt_of_le (h.ar.sL i hi) hbw) hz hl hT
theorem req_app {W x6 wx w7:World} {T9:List Tm} {S9:Nat→Prop} {o:Option Tm} {os2:List (Option Tm)} {n:Int} {ms:List Int} {b k c7 m:Nat} {A7:Option Addr}
  (hb0:Below w.heap.size w W) (hG:Grown S W S9 x6) (hA:Ar B x6 g T9 S9) (hp:T <+: T9) (hl:T9.length≤T.length+m) (hb:Below x6.heap.size x6 wx) (hnb:¬ S9 b)
  (ho:wx.ownsRow w.heap.size 39 1 (.slice (some ⟨b,0,none⟩) 1 1) 1 [.int .i64 n]) (hi:Idn T9 o n) (hi2:Idns T9 os2 ms)
  (hown:w7.ownsRow w.heap.size 39 1 (.slice A7 k c7) k ([Value.int .i64 n]++ms.map (Value.int .i64))) (hkk:k=1+os2.length) (hgr:wx.grownBy w7 (Value.slice (some ⟨b,0,none⟩) 1 1).ownBlock) (hor:(Value.slice A7 k c7).ownBlock=(Value.slice (some ⟨b,0,none⟩) 1 1).ownBlock∨(Value.slice A7 k c7).ownBlock=some wx.heap.size) :
  LstI B w g T S (o :: os2) m (.slice A7 k c7) w7:=by
 have hk:Kp B w g T9 S S9 wx:=Kp.below_ ⟨hA,(Grown.of_below hb0).trans hG⟩ hb
 obtain ⟨h6,h7⟩:=ido_app (os1:=[o]) (ns:=[n]) (os2:=os2) (ms:=ms) (v':=.slice A7 k c7) ho (idns_one hi) (fun i hi=>by simp [Value.ownBlock] at hi;subst hi;exact hnb) hi2 hk hown hkk hgr hor
 exact ⟨T9,S9,A7,c7,by rw [List.length_cons,hkk,Nat.add_comm],h6,hp,hl,h7⟩
theorem request_any (h:Use B w g T S) {o p:Option Tm} {n nk:Int} {user service alg:ByteArray} (ho:Idn T o n) (hk:Idn T p nk) (hz1:user.size≤1000000) (hz2:service.size≤1000000) (hz3:alg.size≤1000000) (hT:T.length≤10000000) :
  Calls Tryz.prog 103 #[.pointer (some ⟨g,0,none⟩),.int .i64 n,.string user,.string service,.string alg,.int .i64 nk] w (DoneL B w g T S (reqO o user service alg p) 8):=by
 have hSL:=h.ar.sL
 have nS:∀i,w.heap.size≤i→¬ S i:=fun i h1 h2=>by have:=hSL i h2;omega
 have HD:=hide (fun (W:World) (hb:Below w.heap.size w W) (b:Nat) (hB:Blk W b 9 #[.string numB,.string user,.string service,.string mthB,.string sgnB,.string alg]) (hbw:w.heap.size≤b)=>sdata_blk h hb [numB,user,service,mthB,sgnB,alg] (by
   intro s hs
   simp only [List.mem_cons,List.not_mem_nil,or_false] at hs
   rcases hs with rfl | rfl | rfl | rfl | rfl | rfl
   ·decide
   ·exact hz1
   ·exact hz2
   ·decide
   ·decide
   ·exact hz3) (by simp) (by simp;omega) b 9 #[.string numB,.string user,.string service,.string mthB,.string sgnB,.string alg] rfl hB hbw 6 rfl [tData numB,tData user,tData service,tData mthB,tData sgnB,tData alg] rfl)
 have hlen6:([tData numB,tData user,tData service,tData mthB,tData sgnB,tData alg]:List (Option Tm)).length=6:=rfl
 obtain ⟨iI,hiI,hI0,hI1,hI2⟩:=info_parts infoIDr
 have Hk:=hide hk
 have Ho:=hide ho
 have HU:=hide h
 clear h ho hk
 go_enter Tryz.func103,Tryz.ntmps103
 go_upto_region 1 with fail
 go_cut [13] (fun v wx=>LstI B w g T S [o,tData numB,tData user,tData service,tData mthB,tData sgnB,tData alg] 6 v wx)
 case first =>
  have hb2:Below w.heap.size w ((w.alloc (.cells #[.int .i64 n] 39)).alloc (.cells #[.string numB,.string user,.string service,.string mthB,.string sgnB,.string alg] 9)):=((Below.refl _ _).alloc (Nat.le_refl _) _).alloc (by simp) _
  have HDD:=hide (HD.out _ hb2 (w.heap.size+1) (blk_at (W:=(w.alloc (.cells #[.int .i64 n] 39))) (by simp) (Below.refl _ _)) (by omega))
  have hB0:Blk ((w.alloc (.cells #[.int .i64 n] 39)).alloc (.cells #[.string numB,.string user,.string service,.string mthB,.string sgnB,.string alg] 9)) w.heap.size 39 #[.int .i64 n]:=(Blk.new w _ _).alloc _
  have hz2':w.heap.size<((w.alloc (.cells #[.int .i64 n] 39)).alloc (.cells #[.string numB,.string user,.string service,.string mthB,.string sgnB,.string alg] 9)).heap.size:=by simp;omega
  go_wp2_with (first
   | (go_at_call 185;go_loud (refine HDD.out.mono ?_;rintro e x6 hdp;obtain ⟨T9,S9,A9,c9,n9,ns9,hn9,rfl,ho9,hid9,hp9,hl9,hA9,hG9⟩:=hdp.open2;rw [hlen6] at hn9 hl9;subst hn9;have hb6:=hG9.outs_.blk hB0 (nS _ (Nat.le_refl _));have hw6:=blk_own (base:=w.heap.size) (n:=1) hb6 (Nat.le_refl _) rfl (show 1≤maxLen by unfold maxLen;omega) rfl))
   | (at_builtin;refine wpList_append_any _ rfl (.tmp 15) (.tmp 21) _ rfl w.heap.size 39 iI (.int .i64 0) 1 8 Tryz.underlying124 hiI hI0 hI1 hI2 rfl (by decide) (.slice (some ⟨w.heap.size,0,none⟩) 1 1) 1 [.int .i64 n] rfl hw6 _ A9 6 c9 (ns9.map (Value.int .i64)) rfl (Reads.of_own ho9) (fun u hu=>by obtain ⟨x,_,rfl⟩:=List.mem_map.1 hu;rfl) (by unfold maxLen;omega) (by omega) (by have:=hG9.size;omega) ?_;intro v7 w7 hown7 hgr7 hor7;obtain ⟨A7,c7,rfl⟩:=own_sl hown7)
   | fail)
  all_goals go_meet
  all_goals exact req_app hb2 hG9 hA9 hp9 hl9 (Below.refl _ _) (fun hh=>by rcases hG9.new _ hh with h1 | h1;exact nS _ (Nat.le_refl _) h1;omega) hw6 (Ho.out.pre hp9) hid9 hown7 rfl hgr7 hor7
 case rest =>
  obtain ⟨wx,rfl⟩:∃wx:World,wx=wc:=⟨wc,rfl⟩
  obtain ⟨T5,S5,A5,c5,hv5,h5,hpre5,hlen5,hkp5⟩:=hcut
  have hl7:([o,tData numB,tData user,tData service,tData mthB,tData sgnB,tData alg]:List (Option Tm)).length=7:=rfl
  rw [hl7] at hv5
  subst hv5
  clear HD hlen6
  have hg5:=hkp5.grown
  have hsz5:=hg5.size
  obtain ⟨ns5,ho5,hid5⟩:=h5.ids
  rw [hl7] at ho5
  have HL7:=hide hl7
  have HO5:=hide (And.intro h5 (And.intro hpre5 (And.intro hlen5 (And.intro hkp5 hid5))))
  clear h5 hpre5 hlen5 hkp5 hid5 hl7 hg5
  go_wp2_with (first
   | (at_builtin;refine wpList_append_any _ rfl (.tmp 24) (.tmp 26) _ rfl w.heap.size 39 iI (.int .i64 0) 1 8 Tryz.underlying124 hiI hI0 hI1 hI2 rfl (by decide) (.slice A5 7 c5) 7 (ns5.map (Value.int .i64)) rfl (ho5.alloc _) _ (some ⟨_,0,none⟩) 1 1 [.int .i64 nk] rfl (reads_blk (Blk.new _ _ _) rfl) (by simp [Value.oneCell']) (by unfold maxLen;omega) (by omega) (by simp;omega) ?_;intro v9 w9 hown9 hgr9 hor9;obtain ⟨A9,c9,rfl⟩:=own_sl hown9;obtain ⟨h8,hpre8,hlen8,hkp8,hid8⟩:=HO5.out;have hL9:=lst_app (m:=6) (os2:=[p]) (ms:=[nk]) ⟨h8,hpre8,hlen8,hkp8.ar,hkp8.grown⟩ (bel_new (.cells #[.int .i64 nk] 39)) (by rw [HL7.out];exact ho5.alloc _) hid8 (idns_one (Hk.out.pre hpre8)) hown9 (by rw [HL7.out];rfl) hgr9 hor9;obtain ⟨T9,S9,A9',c9',hv9,h9,hpre9,hlen9,hkp9⟩:=hL9;obtain ⟨ns9,ho9,hid9⟩:=h9.ids;have hl9:([o,tData numB,tData user,tData service,tData mthB,tData sgnB,tData alg]++[p]).length=8:=rfl;rw [hl9] at ho9;have hU9:Use B w9 g T9 S9:=HU.out.grown hkp9.grown hkp9.ar (by omega);have hn9:ns9.length=8:=hid9.1.trans hl9;have HLL:=hide (aList_any hU9 (own_ids hn9.symm ho9) (by omega));have HAR:=hide hid9.args;have HX9:=hide (And.intro h9 (And.intro hpre9 (And.intro hlen9 hkp9)));clear hid9 hU9 hn9 hl9 ho9 h9 hpre9 hlen9 hkp9 hv9 h8 hpre8 hlen8 hkp8 hid8 hgr9 hor9)
   | (go_at_call 179;refine HLL.out.mono ?_;rintro e w10 ⟨T10,n10,S10,rfl,hp10,hA10,hG10⟩)
   | fail)
  go_ret
  obtain ⟨h9,hpre9,hlen9,hkp9⟩:=HX9.out
  have hO:tList (List.map (arg T9) ns9)=reqO o user service alg p:=by rw [HAR.out];rfl
  rw [hO] at hp10
  exact ⟨T10,n10,S10,rfl,hp10.idn,hpre9.trans hp10.pre,by have:=hp10.len;omega,hA10,hkp9.grown.trans hG10⟩
theorem suser_any (h:Use B w g T S) {o:Option Tm} {n:Int} {user service alg:ByteArray} (ho:Idn T o n) (hz1:user.size≤1000000) (hz2:service.size≤1000000) (hz3:alg.size≤1000000) (who:Int) (hT:T.length≤1000000) :
  Calls Tryz.prog 56 #[.pointer (some ⟨g,0,none⟩),.int .i64 n,.string user,.string service,.string alg,.int .i64 who] w (DoneL B w g T S (userO o user service alg who) 11):=by
 have HK:=hide (aKey_any h who)
 have H:=hide h
 clear h
 go_enter Tryz.func56,Tryz.ntmps56
 go_wp2_with fail
 refine HK.out.mono ?_
 rintro e w1 ⟨T1,n1,S1,rfl,hp1,hA1,hG1⟩
 have hl1:=hp1.len
 have HU1:=hide (H.out.grown hG1 hA1 (by omega))
 have HP:=hide (aPub_any HU1.out n1)
 rw [hp1.idn.1] at HP
 have Hp:=hide hp1
 clear hA1 hp1
 go_wp2_with fail
 refine HP.out.mono ?_
 rintro e w2 ⟨T2,n2,S2,rfl,hp2,hA2,hG2⟩
 have hl2:=hp2.len
 have HU2:=hide (HU1.out.grown hG2 hA2 (by omega))
 have HR:=hide (request_any HU2.out ((ho.pre Hp.out.pre).pre hp2.pre) hp2.idn hz1 hz2 hz3 (by omega))
 have Hp2:=hide hp2
 clear hA2 hp2
 go_wp2_with fail
 refine HR.out.mono ?_
 rintro e w3 ⟨T3,n3,S3,rfl,hi3,hp3,hl3,hA3,hG3⟩
 have hU3:=HU2.out.grown hG3 hA3 (by omega)
 have HS:=hide (aSign_any hU3 (s:=alg) (by omega) n1 n3)
 rw [hi3.1,((Hp.out.idn.pre Hp2.out.pre).pre hp3).1] at HS
 have Hp3:=hide hp3
 clear hU3 hA3 hi3 hp3
 go_wp2_with fail
 refine HS.out.mono ?_
 rintro e w4 ⟨T4,n4,S4,rfl,hp4,hA4,hG4⟩
 go_wp2_with fail
 go_ret
 exact ⟨T4,n4,S4,rfl,hp4.idn,Hp.out.pre.trans (Hp2.out.pre.trans (Hp3.out.trans hp4.pre)),by have:=hp4.len;omega,hA4,hG1.trans (hG2.trans (hG3.trans hG4))⟩
end
end Go.Proofs.YtnhekaepgpbijaaGreatDoor
