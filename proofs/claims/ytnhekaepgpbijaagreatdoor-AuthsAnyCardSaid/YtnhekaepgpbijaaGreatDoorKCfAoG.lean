/- Several of my texts in one: CfJ, CfL, CfN, CfP, CfAo, CfCk, CfX0, ErO. -/
import Derived.Test.YtnhekaepgpbijaaGreatDoorKAli
import Derived.Test.YtnhekaepgpbijaaGreatDoorKCfIG
import Derived.Test.YtnhekaepgpbijaaGreatDoorKCfKG
set_option linter.unusedVariables false
set_option linter.unusedSimpArgs false
set_option maxHeartbeats 40000000
set_option maxRecDepth 100000
namespace Go.Proofs.YtnhekaepgpbijaaGreatDoor
open Go.Proofs.Tryz Go.RowKit Go.ChangeShapes Go.WideShapes Go.Sort
variable {V w':World} {o:Oper} {ls:List (List (List UInt8))} {j:List Value} {cm sw us:List UInt8} {A A0 A1 A10 A2 A3 A4 A5 A6 A7 A8 A9:Option Addr} {B b c c0 c1 c10 c2 c3 c4 c5 c6 c7 c8 c9 g lo n n0 n1 n2 n3 n4 n5 n6 n7:Nat} {al:List (List UInt8)} {gr gs:List (List UInt8 × Int)} {ky:List Int} {a:Act} {v:Value} {p_:Prop} {ex ge sv:Bool} {lim own peer q0 q1 q2:Int} {args cs:Array Value} {t:TypeId} {rest:List Oper} {Q:Exit->Act->World->Prop} {f:FuncId}
def Kl (w:World) (vs:List Value) (ls:List (List (List UInt8))):Prop:=vs.length=8/\ls.length=8/\∀(i:Nat) v l,vs[i]?=some v->ls[i]?=some l->Txc w v l/\l.length<=maxLen
theorem Kl.below {w:World} {o:List Value} (h:Kl w o ls) (p:Below w.heap.size w w'):Kl w' o ls :=
 ⟨h.1,h.2.1,fun i v l g j=>⟨(h.2.2 i v l g j).1.below p,(h.2.2 i v l g j).2⟩⟩
theorem Kl.allS {w:World} (h:Kl w j ls):jX 0 w j (ls.map bss):=by
 refine ⟨by rw [Yd,h.1,h.2.1],fun i v s o g=>?_⟩;rw [Yt,Option.map_eq_some_iff] at g;obtain ⟨l,p,rfl⟩:=g;have:=h.2.2 i v l o p;have q:maxLen<=9223372036854775807:=Ze;exact ⟨this.1.1,by rw [bss,Yd];omega⟩
structure CfW (w:World) (sw cm us:List UInt8) (vs:List Value) (ls:List (List (List UInt8))) (A8:Option Addr) (c8:Nat) (al:List (List UInt8)) (A9:Option Addr) (gr:List (List UInt8 × Int)) (A10:Option Addr) (ky:List Int):Prop where
 hl8:Kl w vs ls
 hal:Txs w (.slice A8 al.length c8) al
 alc:al.length<=c8
 all:al.length<=maxLen
 hgr:GrC w A9 gr
 grl:gr.length<=maxLen
 hky:InC w A10 ky
 kyl:ky.length<=maxLen
theorem CfW.below {w:World} 
  (h:CfW w sw cm us j ls A8 c8 al A9 gr A10 ky) (g:Below w.heap.size w w'):CfW w' sw cm us j ls A8 c8 al A9 gr A10 ky :=
 ⟨h.hl8.below g,h.hal.below g,h.alc,h.all,h.hgr.below g,h.grl,h.hky.below g,h.kyl⟩
def jV (sw cm us:List UInt8) (ls:List (List (List UInt8))) (al:List (List UInt8)) (gr:List (List UInt8 × Int)) (ky:List Int):Bool :=
 ut (ls.map bss) && decide (al.length<=20) && decide (gr.length<=20) && decide (ky.length<=20) && decide (sw.length<=300) && decide (cm.length<=300) && decide (us.length<=300) && al.all (fun x=>decide (x.length<=300)) && gr.all (fun x=>decide (x.1.length<=300))
theorem Ju (h:ut (ls.map bss)=true):∀l∈ls,l.length<=20/\∀y∈l,y.length<=100:=by
 intro l j;unfold ut at h;rw [List.all_eq_true] at h;have g:=h (bss l) (List.mem_map.2 ⟨l,j,rfl⟩);unfold Ap at g;simp only [YF,Yw,List.all_eq_true,bss,Yd] at g;exact ⟨g.1,fun y o=>g.2 (bs y) (List.mem_map.2 ⟨y,o,rfl⟩)⟩
theorem CfW.few {w:World} {r:List Value} 
  (h:CfW w sw cm us r ls A8 c8 al A9 gr A10 ky) (o:jV sw cm us ls al gr ky=true):CfM w sw cm us r ls A8 c8 al A9 gr A10 ky:=by
 unfold jV at o;simp only [YF,Yw,List.all_eq_true] at o;obtain ⟨⟨⟨⟨⟨⟨⟨⟨z,B⟩,C⟩,D⟩,F⟩,G⟩,I⟩,h8⟩,h9⟩:=o;have q:=Ju z;refine ⟨Z0,Z0,Z0,⟨h.hl8.1,h.hl8.2.1,fun i v l u j=>⟨(h.hl8.2.2 i v l u j).1,?_,fun y p=>?_⟩⟩,h.hal,h.alc,Z0,fun y p=>Yg (h8 y p) Z2,h.hgr,Z0,fun g A=>Yg (h9 g A) Z2,h.hky,Z0⟩
 ·have:=(q l (Yo j)).1
  omega
 ·have:=(q l (Yo j)).2 y p
  omega
def BM:List Shp:=[.b,.s,.s,.sl [.s],.sl [.s],.sl [.s],.sl [.s],.sl [.s],.sl [.s],.sl [.s],.sl [.s],.sl [.s],.i .i64,.sl [.s,.i .i64],.i .i64,.i .i64,.s,.sl [.i .i64],.b,.b,.i .u32,.i .u32,.i .u32]
theorem aV {w:World} {a:Shp} {l:List Shp} {us:List Value} (h:Shp.oks w (a :: l) us):∃u g,us=u :: g/\Shp.ok w a u/\Shp.oks w l g:=by
 match us,h with
 | [],h=>simp [Shp.oks] at h
 | u :: g,h=>exact ⟨u,g,rfl,by simpa [Shp.oks] using h⟩
theorem QJ {w:World} (h:Shp.ok w (.sl [.i .i64]) v):∃(q:List Int) (A:Option Addr) (c:Nat),v=.slice A q.length c/\InC w A q/\q.length<=maxLen:=by
 simp only [Shp.ok] at h;obtain ⟨A,n,c,rfl,F,J,D⟩:=h
 have o:∀j,∃k:Int,j<n->∃g,A=some g/\w.cell? (g.add j)=some (.int .i64 k):=by
  intro j
  by_cases z:j<n
  ·obtain ⟨g,us,e,h1,B⟩:=D j z
   obtain ⟨u,G,rfl,r,I⟩:=aV B;simp only [Shp.ok] at r;obtain ⟨k,rfl,_⟩:=r;refine ⟨k,fun _=>⟨g,e,?_⟩⟩;have:=h1 0 _ rfl;simpa using this
  ·exact ⟨0,fun h=>absurd h z⟩
 obtain ⟨f,C⟩:=Classical.axiomOfChoice o;refine ⟨(List.range n).map f,A,c,Z3,fun k hk=>?_,by simp;omega⟩;have p:k<n:=Xd;obtain ⟨g,e,h1⟩:=C k p;refine ⟨g,e,?_,XQ⟩;have:=World.block_lt_of_cell? w _ h1;rwa [ax] at this
theorem Kr {w:World} (h:Shp.ok w (.sl [.s,.i .i64]) v):∃(gs:List (List UInt8 × Int)) (A:Option Addr) (c:Nat),v=.slice A gs.length c/\GrC w A gs/\gs.length<=maxLen:=by
 simp only [Shp.ok] at h;obtain ⟨A,n,c,rfl,K,P,J⟩:=h
 have z:∀j,∃g:List UInt8 × Int,j<n->∃o,A=some o/\w.cell? (o.add (j*2))=some (.string (bs g.1))/\w.cell? (o.add (j*2+1))=some (.int .i64 g.2):=by
  intro j
  by_cases F:j<n
  ·obtain ⟨o,us,e,h1,r⟩:=J j F
   obtain ⟨u,L,rfl,C,G⟩:=aV r;obtain ⟨u2,N,rfl,D,O⟩:=aV G;simp only [Shp.ok] at C D;obtain ⟨s,rfl,_⟩:=C;obtain ⟨k,rfl,_⟩:=D;refine ⟨(s.data.toList,k),fun _=>⟨o,e,?_,?_⟩⟩
   ·have:=h1 0 _ rfl
    have t:w.cell? (o.add (j*2))=some (.string s):=by simpa using this
    exact t
   ·have:=h1 1 _ rfl
    simpa using this
  ·exact ⟨([],0),fun h=>absurd h F⟩
 obtain ⟨f,I⟩:=Classical.axiomOfChoice z;refine ⟨(List.range n).map f,A,c,Z3,fun k hk=>?_,by simp;omega⟩;have B:k<n:=Xd;obtain ⟨o,e,h1,r⟩:=I k B;have q:=World.block_lt_of_cell? w _ h1;rw [ax] at q
 have p:o.add (k*2+1)=⟨(o.add (k*2)).block,(o.add (k*2)).off+1,none⟩:=by
  rw [rV]
  cases k with
  | zero=>simp [Addr.add]
  | succ m=>simp [Addr.add];omega
 refine ⟨o,e,q,XQ,?_⟩;rw [<-p];simpa using r
theorem jT {w:World} (h:Shp.ok w (.sl [.s]) v):∃ls:List (List UInt8),∃A c,v=.slice A ls.length c/\Txc w v ls/\ls.length<=maxLen:=by
 obtain ⟨ls,g,j,_⟩:=Ma h;obtain ⟨_,A,c,e,_⟩:=id g;exact ⟨ls,A,c,e,g,j⟩
theorem xV {q:Int} (h:(Lit.int .u32 q).wf=true):IntKind.i64.wrap q=q:=by
 have g:0<=q/\q<=4294967295:=by
  simp [Lit.wf,IntKind.min,IntKind.max,IntKind.bits,IntKind.signed] at h;omega
 exact wrap_small _ Z0 Z0
theorem Lc {w:World} {D:List Value} (h:Shp.oks w BM D):∃(sv ex ge:Bool) (sw cm us:List UInt8) (own lim peer q0 q1 q2:Int),∃A0 n0 c0 A1 n1 c1 A2 n2 c2 A3 n3 c3 A4 n4 c4 A5 n5 c5 A6 n6 c6 A7 n7 c7 A8 c8 A9 c9 A10 c10,∃(ls:List (List (List UInt8))) (al:List (List UInt8)) (gr:List (List UInt8 × Int)) (ky:List Int),
  D=[.bool sv,.string (bs sw),.string (bs cm),.slice A0 n0 c0,.slice A1 n1 c1,.slice A2 n2 c2,.slice A3 n3 c3,.slice A4 n4 c4,.slice A5 n5 c5,.slice A6 n6 c6,.slice A7 n7 c7,.slice A8 al.length c8,.int .i64 own,.slice A9 gr.length c9,.int .i64 lim,.int .i64 peer,.string (bs us),.slice A10 ky.length c10,.bool ex,.bool ge,.int .u32 q0,.int .u32 q1,.int .u32 q2]/\CfW w sw cm us [.slice A0 n0 c0,.slice A1 n1 c1,.slice A2 n2 c2,.slice A3 n3 c3,.slice A4 n4 c4,.slice A5 n5 c5,.slice A6 n6 c6,.slice A7 n7 c7] ls A8 c8 al A9 gr A10 ky/\IntKind.i64.wrap q0=q0/\IntKind.i64.wrap q1=q1/\IntKind.i64.wrap q2=q2:=by
 unfold BM at h;obtain ⟨ub,r0,rfl,k0,g0⟩:=aV h;obtain ⟨u1,r1,rfl,k1,g1⟩:=aV g0;obtain ⟨u2,r2,rfl,k2,g2⟩:=aV g1;obtain ⟨v0,r3,rfl,k3,g3⟩:=aV g2;obtain ⟨v1,r4,rfl,k4,g4⟩:=aV g3;obtain ⟨v2,r5,rfl,k5,g5⟩:=aV g4;obtain ⟨v3,r6,rfl,k6,g6⟩:=aV g5;obtain ⟨v4,r7,rfl,k7,g7⟩:=aV g6;obtain ⟨v5,r8,rfl,k8,g8⟩:=aV g7;obtain ⟨v6,r9,rfl,k9,g9⟩:=aV g8;obtain ⟨v7,ad,rfl,Y,F⟩:=aV g9;obtain ⟨va,af,rfl,Z,G⟩:=aV F;obtain ⟨wo,am,rfl,o,I⟩:=aV G;obtain ⟨vg,an,rfl,aa,J⟩:=aV I;obtain ⟨wl,ao,rfl,p,K⟩:=aV J;obtain ⟨wp,ap,rfl,q,L⟩:=aV K;obtain ⟨wu,aq,rfl,r,N⟩:=aV L;obtain ⟨vk,av,rfl,ab,O⟩:=aV N;obtain ⟨we,aw,rfl,u,P⟩:=aV O;obtain ⟨wg,aE,rfl,z,Q⟩:=aV P;obtain ⟨x0,aF,rfl,A,R⟩:=aV Q;obtain ⟨x1,a0,rfl,B,S⟩:=aV R;obtain ⟨x2,ac,rfl,C,T⟩:=aV S;have hz:ac=[]:=by have:=GR T;exact Yc this
 subst hz;obtain ⟨l0,A0,c0,rfl,t0,m0⟩:=jT k3;obtain ⟨l1,A1,c1,rfl,t1,m1⟩:=jT k4;obtain ⟨l2,A2,c2,rfl,t2,m2⟩:=jT k5;obtain ⟨l3,A3,c3,rfl,t3,m3⟩:=jT k6;obtain ⟨l4,A4,c4,rfl,t4,m4⟩:=jT k7;obtain ⟨l5,A5,c5,rfl,t5,m5⟩:=jT k8;obtain ⟨l6,A6,c6,rfl,t6,m6⟩:=jT k9;obtain ⟨l7,A7,c7,rfl,t7,m7⟩:=jT Y;obtain ⟨al,A8,c8,rfl,ta,ma⟩:=jT Z;obtain ⟨gr,A9,c9,rfl,tg,mg⟩:=Kr aa;obtain ⟨ky,A10,c10,rfl,tk,mk⟩:=QJ ab;simp only [Shp.ok] at k0 k1 k2 o p q r u z A B C;obtain ⟨sv,rfl⟩:=k0;obtain ⟨s1,rfl,_⟩:=k1;obtain ⟨s2,rfl,_⟩:=k2;obtain ⟨own,rfl,_⟩:=o;obtain ⟨lim,rfl,_⟩:=p;obtain ⟨peer,rfl,_⟩:=q;obtain ⟨s3,rfl,_⟩:=r;obtain ⟨ex,rfl⟩:=u;obtain ⟨ge,rfl⟩:=z;obtain ⟨q0,rfl,U⟩:=A;obtain ⟨q1,rfl,V⟩:=B;obtain ⟨q2,rfl,X⟩:=C;refine ⟨sv,ex,ge,s1.data.toList,s2.data.toList,s3.data.toList,own,lim,peer,q0,q1,q2,A0,l0.length,c0,A1,l1.length,c1,A2,l2.length,c2,A3,l3.length,c3,A4,l4.length,c4,A5,l5.length,c5,A6,l6.length,c6,A7,l7.length,c7,A8,c8,A9,c9,A10,c10,[l0,l1,l2,l3,l4,l5,l6,l7],al,gr,ky,rfl,⟨⟨rfl,rfl,fun i v l g j=>?_⟩,ta.1,?_,ma,tg,mg,tk,mk⟩,xV U,xV V,xV X⟩
 ·match i,g,j with
  | 0,g,j=>cases g;cases j;exact ⟨t0,m0⟩
  | 1,g,j=>cases g;cases j;exact ⟨t1,m1⟩
  | 2,g,j=>cases g;cases j;exact ⟨t2,m2⟩
  | 3,g,j=>cases g;cases j;exact ⟨t3,m3⟩
  | 4,g,j=>cases g;cases j;exact ⟨t4,m4⟩
  | 5,g,j=>cases g;cases j;exact ⟨t5,m5⟩
  | 6,g,j=>cases g;cases j;exact ⟨t6,m6⟩
  | 7,g,j=>cases g;cases j;exact ⟨t7,m7⟩
  | n+8,g,_=>simp at g
 ·obtain ⟨_,_,_,e,hc⟩:=ta
  injection e with _ _ e3;omega
section
variable {w : World}
theorem zzd9d (h_:p_:=by
 go_wp2_with fail;go_ret
 exact ⟨by rw [E.out];rfl,HB1.out⟩):p_:=h_
theorem zz9ab (h_:p_:=by
 go_enter func35,ntmps35;go_upto_region 1 with fail;rw [<-hW0];clear hW0;go_wp2_with (go_at_call 80;refine HF.out.mono ?_;rintro e w1 ⟨rfl,hb1⟩;have hX1:=HX.out.2.1.below hb1 hlt0;have y1:=hX1.cell 1;have y2:=hX1.cell 2;have y11:=hX1.cell 11;have y13:=hX1.cell 13;have y16:=hX1.cell 16;have y17:=hX1.cell 17;simp only [Jx,Q1,Q2] at y1 y2 y11 y13 y16 y17);go_ret
 exact ⟨by rw [E.out];rfl,HX.out.1.trans (hb1.mono HX.out.1.size)⟩):p_:=h_
theorem L8 (X:CfW w sw cm us [.slice A0 n0 c0,.slice A1 n1 c1,.slice A2 n2 c2,.slice A3 n3 c3,.slice A4 n4 c4,.slice A5 n5 c5,.slice A6 n6 c6,.slice A7 n7 c7] ls A8 c8 al A9 gr A10 ky):Calls prog 35 #[.agg #[.bool sv,.string (bs sw),.string (bs cm),.slice A0 n0 c0,.slice A1 n1 c1,.slice A2 n2 c2,.slice A3 n3 c3,.slice A4 n4 c4,.slice A5 n5 c5,.slice A6 n6 c6,.slice A7 n7 c7,.slice A8 al.length c8,.int .i64 own,.slice A9 gr.length c9,.int .i64 lim,.int .i64 peer,.string (bs us),.slice A10 ky.length c10,.bool ex,.bool ge,.int .u32 q0,.int .u32 q1,.int .u32 q2]] w (fun e w'=>e=.returned (.bool (jV sw cm us ls al gr ky))/\Below w.heap.size w w'):=by
 obtain ⟨J,hW0⟩:∃J,J=w.alloc (.cells #[.bool sv,.string (bs sw),.string (bs cm),.slice A0 n0 c0,.slice A1 n1 c1,.slice A2 n2 c2,.slice A3 n3 c3,.slice A4 n4 c4,.slice A5 n5 c5,.slice A6 n6 c6,.slice A7 n7 c7,.slice A8 al.length c8,.int .i64 own,.slice A9 gr.length c9,.int .i64 lim,.int .i64 peer,.string (bs us),.slice A10 ky.length c10,.bool ex,.bool ge,.int .u32 q0,.int .u32 q1,.int .u32 q2] 30):=⟨_,rfl⟩
 have B:Below w.heap.size w J:=Zg;have g:Blk J w.heap.size 30 #[.bool sv,.string (bs sw),.string (bs cm),.slice A0 n0 c0,.slice A1 n1 c1,.slice A2 n2 c2,.slice A3 n3 c3,.slice A4 n4 c4,.slice A5 n5 c5,.slice A6 n6 c6,.slice A7 n7 c7,.slice A8 al.length c8,.int .i64 own,.slice A9 gr.length c9,.int .i64 lim,.int .i64 peer,.string (bs us),.slice A10 ky.length c10,.bool ex,.bool ge,.int .u32 q0,.int .u32 q1,.int .u32 q2]:=Zk;have HF:=hide (I7 (X.hl8.allS.below B));have HX:=hide (Y4 B (Y4 g X));have hlt0:=g.lt;have z3:=g.cell 3;have z4:=g.cell 4;have z5:=g.cell 5;have z6:=g.cell 6;have z7:=g.cell 7;have z8:=g.cell 8;have z9:=g.cell 9;have aa:=g.cell 10;simp only [Jx,Q1,Q2] at z3 z4 z5 z6 z7 z8 z9 aa;clear B g X
 cases j:ut (ls.map bss) with
 | false =>
  rw [j] at HF;have E:=hide (show jV sw cm us ls al gr ky=false from by unfold jV;rw [j];simp);clear j;exact zz9ab
 | true =>
  rw [j] at HF
  by_cases g0:al.length<=20
  rotate_left 1
  ·have u:(20:Int)<al.length:=by omega
   have E:=hide (show jV sw cm us ls al gr ky=false from by unfold jV;rw [Y7 g0];simp);clear j;have N:decide ((20:Int)<(al.length:Int))=true:=Y8 u;exact zz9ab
  ·have u:¬ (20:Int)<al.length:=by omega
   have N:decide ((20:Int)<(al.length:Int))=false:=Y7 u
   by_cases g1:gr.length<=20
   rotate_left 1
   ·have v:(20:Int)<gr.length:=by omega
    have E:=hide (show jV sw cm us ls al gr ky=false from by unfold jV;rw [Y7 g1];simp);clear j;have O:decide ((20:Int)<(gr.length:Int))=true:=Y8 v;exact zz9ab
   ·have v:¬ (20:Int)<gr.length:=by omega
    have O:decide ((20:Int)<(gr.length:Int))=false:=Y7 v
    by_cases g2:ky.length<=20
    rotate_left 1
    ·have z:(20:Int)<ky.length:=by omega
     have E:=hide (show jV sw cm us ls al gr ky=false from by unfold jV;rw [Y7 g2];simp);clear j;have P:decide ((20:Int)<(ky.length:Int))=true:=Y8 z;exact zz9ab
    ·have z:¬ (20:Int)<ky.length:=by omega
     have P:decide ((20:Int)<(ky.length:Int))=false:=Y7 z
     by_cases g3:sw.length<=300
     rotate_left 1
     ·have o:(300:Int)<sw.length:=by omega
      have E:=hide (show jV sw cm us ls al gr ky=false from by unfold jV;rw [Y7 g3];simp);clear j;have R:decide ((300:Int)<(sw.length:Int))=true:=Y8 o;have Q:decide ((300:Int)<((bs sw).size:Int))=true:=Y8 o;exact zz9ab
     ·have o:¬ (300:Int)<sw.length:=by omega
      have R:decide ((300:Int)<(sw.length:Int))=false:=Y7 o;have Q:decide ((300:Int)<((bs sw).size:Int))=false:=Y7 o
      by_cases g4:cm.length<=300
      rotate_left 1
      ·have p:(300:Int)<cm.length:=by omega
       have E:=hide (show jV sw cm us ls al gr ky=false from by unfold jV;rw [Y7 g4];simp);clear j;have T:decide ((300:Int)<(cm.length:Int))=true:=Y8 p;have S:decide ((300:Int)<((bs cm).size:Int))=true:=Y8 p;exact zz9ab
      ·have p:¬ (300:Int)<cm.length:=by omega
       have T:decide ((300:Int)<(cm.length:Int))=false:=Y7 p;have S:decide ((300:Int)<((bs cm).size:Int))=false:=Y7 p
       by_cases g5:us.length<=300
       rotate_left 1
       ·have q:(300:Int)<us.length:=by omega
        have E:=hide (show jV sw cm us ls al gr ky=false from by unfold jV;rw [Y7 g5];simp);clear j;have V:decide ((300:Int)<(us.length:Int))=true:=Y8 q;have U:decide ((300:Int)<((bs us).size:Int))=true:=Y8 q;exact zz9ab
       ·have q:¬ (300:Int)<us.length:=by omega
        have V:decide ((300:Int)<(us.length:Int))=false:=Y7 q;have U:decide ((300:Int)<((bs us).size:Int))=false:=Y7 q;have L:=hide (show jV sw cm us ls al gr ky=(al.all (fun x=>decide (x.length<=300)) && gr.all (fun x=>decide (x.1.length<=300))) from by unfold jV;rw [j,Y8 g0,Y8 g1,Y8 g2,Y8 g3,Y8 g4,Y8 g5];simp);clear j;go_enter func35,ntmps35;go_upto_region 1 with fail;rw [<-hW0];clear hW0;go_wp2_with (go_at_call 80;refine HF.out.mono ?_;rintro e w1 ⟨rfl,hb1⟩;have hX1:=HX.out.2.1.below hb1 hlt0;have y1:=hX1.cell 1;have y2:=hX1.cell 2;have y11:=hX1.cell 11;have y13:=hX1.cell 13;have y16:=hX1.cell 16;have y17:=hX1.cell 17;simp only [Jx,Q1,Q2] at y1 y2 y11 y13 y16 y17);have C:=hide ((HX.out.2.2.hal.below (HX.out.1.trans (hb1.mono HX.out.1.size))).open_);have I:=hide (HX.out.2.2.hgr.below (HX.out.1.trans (hb1.mono HX.out.1.size)));have HB1:=hide (HX.out.1.trans (hb1.mono HX.out.1.size));obtain ⟨A',c',hv,hA⟩:=C.out;obtain ⟨rfl,rfl⟩:A'=A8/\c'=c8:=Z8;have C:=hide hA;clear hv hA
        go_loop [3] (fun i=>∃k:Nat,k<=al.length/\i=.int .i64 k/\Hid (∀x∈al.take k,x.length<=300)) (fun i=>al.length - (intOf i).toNat)
        case atStart=>exact ⟨0,Yb _,rfl,hide Z3⟩
        case round =>
         obtain ⟨k,hk,rfl,H⟩:=hrel
         by_cases hlt:k<al.length
         ·have F:(k:Int)<al.length:=by omega
          obtain ⟨ad,rfl,Y,Z⟩:=C.out k hlt
          by_cases D:al[k].length<=300
          ·have A:¬ (300:Int)<al[k].length:=by omega
           have H2:=hide (show ∀x∈al.take (k+1),x.length<=300 from by
            intro x hx;rw [Yh hlt] at hx;rcases Yy.1 hx with hx | hx
            ·exact H.out x hx
            ·simp only [Ym] at hx
             subst hx
             exact D)
           clear H C;go_wp2_with fail;exact zz4fa
          ·have A:(300:Int)<al[k].length:=by omega
           have E:=hide (show jV sw cm us ls al gr ky=false from by rw [L.out,qz (Yf hlt) (Y7 D),YI]);clear H C;exact zzd9d
         ·have F:¬ (k:Int)<al.length:=by omega
          have K:=hide (show al.all (fun x=>decide (x.length<=300))=true from List.all_eq_true.2 (fun x hx=>Y8 (H.out x Xb)));clear H C;go_wp2_with fail
          go_loop [4] (fun i=>∃k:Nat,k<=gr.length/\i=.int .i64 k/\Hid (∀x∈gr.take k,x.1.length<=300)) (fun i=>gr.length - (intOf i).toNat)
          case atStart=>exact ⟨0,Yb _,rfl,hide Z3⟩
          case round =>
           obtain ⟨r,ac,rfl,H⟩:=hrel
           by_cases h:r<gr.length
           ·have G:(r:Int)<gr.length:=by omega
            obtain ⟨ad,rfl,Y,Z,ab⟩:=I.out r h
            by_cases D:gr[r].1.length<=300
            ·have A:¬ (300:Int)<gr[r].1.length:=by omega
             have H2:=hide (show ∀x∈gr.take (r+1),x.1.length<=300 from by
              intro x hx;rw [Yh h] at hx;rcases Yy.1 hx with hx | hx
              ·exact H.out x hx
              ·simp only [Ym] at hx
               subst hx
               exact D)
             clear H I;go_wp2_with fail;go_round
             case rel=>exact ⟨r+1,h,Zr,H2⟩
             case measure=>simp [intOf];omega
            ·have A:(300:Int)<gr[r].1.length:=by omega
             have E:=hide (show jV sw cm us ls al gr ky=false from by rw [L.out,qz (Yf h) (Y7 D),Bool.and_false]);clear H I;exact zzd9d
           ·have G:¬ (r:Int)<gr.length:=by omega
            have E:=hide (show jV sw cm us ls al gr ky=true from by rw [L.out,K.out,YH];exact List.all_eq_true.2 (fun x hx=>Y8 (H.out x Xb)));clear H I;exact zzd9d
end
def wrA:Array Value->Nat->List Value->Array Value
 | cs,_,[]=>cs
 | cs,o,v :: r=>wrA (cs.setIfInBounds o v) (o+1) r
theorem Dh:∀(j pre g:List Value),g.length=j.length->wrA (pre++g).toArray pre.length j=(pre++j).toArray
 | [],pre,g,h=>by
  have:g=[]:=Yc h;subst this;rfl
 | v :: r,pre,[],h=>ZM
 | v :: r,pre,p :: g,h=>by
  have o:=Dh r (pre++[v]) g Xx;rw [Ya,YA] at o;unfold wrA;rw [J0,List.set_append_right _ _ (Y2 _),Nat.sub_self,JT];rw [show pre++v :: g=pre++[v]++g by simp,o];simp
theorem oC {g:List Value} (h:cs.toList.length=g.length):wrA cs 0 g=g.toArray:=by
 have:=Dh g [] cs.toList h;simpa using this
theorem Blk.setCells :∀(g:List Value) (o:Nat) {w:World} {cs:Array Value},Blk w b t cs->Blk (w.setCells b o g) b t (wrA cs o g)
 | [],_,_,_,h=>h
 | v :: r,o,_,_,h=>Blk.setCells r (o+1) (h.set_ o v)
theorem Blk.setCells_far (j:g≠b):∀(q:List Value) (o:Nat) {w:World},Blk w g t cs->Blk (w.setCells b o q) g t cs
 | [],_,_,h=>h
 | v :: r,o,_,h=>Blk.setCells_far j r (o+1) (h.far (p:=⟨b,o,none⟩) j v)
theorem below_setCells {w0:World} (g:B<=b):∀(j:List Value) (o:Nat) {w:World},Below B w0 w->Below B w0 (w.setCells b o j)
 | [],_,_,h=>h
 | v :: r,o,_,h=>below_setCells g r (o+1) (h.setCell (p:=⟨b,o,none⟩) g v)
theorem bN.setCells {l:List (List UInt8)} (g:b<lo):∀(j:List Value) (o:Nat) {w:World},bN lo w v l->bN lo (w.setCells b o j) v l
 | [],_,_,h=>h
 | u :: r,o,_,h=>bN.setCells g r (o+1) (h.set_ (p:=⟨b,o,none⟩) g u)
theorem bH {p:Addr} (h:p.block≠b) (g:List Value) (o:Nat) (w:World):(w.setCells b o g).cell? p=w.cell? p :=
 World.cell?_setCells_out b g o w p (fun e=>absurd e h)
theorem ko {w:World} (h:Blk w b t cs) (o:n<=cs.size):w.there b 0 n:=fun j g=>by
 rw [Nat.zero_add,h.cell j,Array.getElem?_eq_getElem Z0];exact ⟨rfl,h.frozen j⟩
theorem ja {w:World} {j:Array Oper} (p:o.guard=none) (x y:Operand) (u:o.op=.store 30 x y) (v:a.eval x=.pointer (some ⟨b,0,none⟩)) {g:Array Value} (z:a.eval y=.agg g)
  (r:Blk w b 30 cs) (A:cs.size=23) (hl:g.size=23) (q:g.all (·.oneCell')=true)
  (h:wpList prog j Q rest (a.put o.dst undef) (w.setCells b 0 g.toList)):wpList prog j Q (o :: rest) a w :=
 wpList_store_mid p 30 x y u b 0 g v z (ko r Z0) XV q h
theorem gJ {w:World} {g:Array Oper} {j:Oper} (o:j.guard=none) (q:(execOp a.eval j).run prog w=.ok (.value v) w')
  (h:wpList prog g Q rest (a.put j.dst v) w'):wpList prog g Q (j :: rest) a w :=
 wpList_plain o fun _ p=>by
  unfold Oper.wp;rw [q];exact p _ _ h
theorem zz469 (h_:p_:=by
 unfold Oper.wp;rw [hr,Oper.upon_enter];refine hc.mono fun e w' hp=>?_
 obtain ⟨r,rfl,hk⟩:=h e w' hp
 exact hK _ _ hk):p_:=h_
theorem gX {w:World} {j:Array Oper} (p:o.guard=none) (hr:(execOp a.eval o).run prog w=.ok (.enter f args) w)
  {g:Ending->World->Prop} (hc:Calls prog f args w g) (h:∀e w',g e w'->∃r,e=.returned r/\wpList prog j Q rest (a.put o.dst r) w'):wpList prog j Q (o :: rest) a w :=
 wpList_plain p fun _ hK=>by
  exact zz469
theorem yl {w:World} {p:Func} {t:Tmp} {j:TypeId} {d:TypeDesc} (h:p.results=#[.cell t j]) {g:Array Value} (r:g.getD t undef=.pointer (some ⟨b,0,none⟩)) {cs:List Value} (q:Blk w b j cs.toArray)
  (u:prog.underlying j=some d) (hd:d.isRow=true) (hi:(prog.info? j).map (·.size)=some cs.length):(results p g).run prog w=.ok (.agg cs.toArray) w:=by
 have key:=run_loadVar_mid w b 0 j cs d (vX q) u hd hi;have o:g[t]?.getD undef=.pointer (some ⟨b,0,none⟩):=by simpa using r
 simp [results,h,o,asAddr,Sem.run_bind,key]
theorem Az {w:World} {j:Func} {t:Tmp} (h:j.results=#[.cell t 30]) {g:Array Value} (o:g.getD t undef=.pointer (some ⟨b,0,none⟩)) (hX:Blk w b 30 cs) (hl:cs.toList.length=23) :
  (results j g).run prog w=.ok (.agg cs) w:=by
 have:=yl h o (cs:=cs.toList) XW underlying30 rfl XV;rwa [YN] at this
def qO:Array Value:=#[.bool false,.string ⟨#[]⟩,.string ⟨#[]⟩,.slice none 0 0,.slice none 0 0,.slice none 0 0,.slice none 0 0,.slice none 0 0,.slice none 0 0,.slice none 0 0,.slice none 0 0,.slice none 0 0,.int .i64 0,.slice none 0 0,.int .i64 0,.int .i64 0,.string ⟨#[]⟩,.slice none 0 0,.bool false,.bool false,.int .u32 0,.int .u32 0,.int .u32 0]
theorem TZ (o:Oper) (N:o.op=.build 30 #[(0,.tmp 6),(1,.const (.string ⟨#[112,108,97,105,110]⟩)),(3,.tmp 7),(4,.tmp 8)]) (g:Operand->Value) {h B1 j q r u v z:Option Addr} {O m1 P Q R S T U V C D F G I J K L:Nat} (Z:g (.tmp 6)=.bool sv) (h7:g (.tmp 7)=.agg #[.slice h O B,.slice B1 m1 C,.slice j P D,.slice q Q F,.slice r R G,.slice u S I,.slice v T J,.slice z U K]) (h8:g (.tmp 8)=.slice A V L) (hk:g (.const (.string ⟨#[112,108,97,105,110]⟩))=.string ⟨#[112,108,97,105,110]⟩) (w:World) :
  (execOp g o).run prog w=.ok (.value (.agg #[.bool sv,.string ⟨#[112,108,97,105,110]⟩,.string ⟨#[]⟩,.slice h O B,.slice B1 m1 C,.slice j P D,.slice q Q F,.slice r R G,.slice u S I,.slice v T J,.slice z U K,.slice A V L,.int .i64 0,.slice none 0 0,.int .i64 0,.int .i64 0,.string ⟨#[]⟩,.slice none 0 0,.bool false,.bool false,.int .u32 0,.int .u32 0,.int .u32 0])) w:=by
 obtain ⟨d,op,t,p,X,Y⟩:=o;simp only at N;subst N;go_simp
theorem Mf (o:Oper) (g:o.op=.alloc 30) (h:Operand->Value) (w:World):(execOp h o).run prog w=.ok (.value (.pointer (some ⟨w.heap.size,0,none⟩))) (w.alloc (.cells qO 30)):=by
 obtain ⟨d,r,t,p,j,q⟩:=o;simp only at g;subst g;unfold qO;go_simp
theorem IG {w:World} {u:ByteArray} {n:Int} (h:Blk w g t #[.string u,.int .i64 n]):GrC w (some ⟨g,0,none⟩) [(u.data.toList,n)]:=fun k o=>by
 have j:k=0:=by simp at o;exact o
 subst j;refine ⟨⟨g,0,none⟩,rfl,h.lt,?_,?_⟩
 ·have p:w.cell? ((⟨g,0,none⟩:Addr).add (0*2))=some (.string u):=by
   have:=h.cell 0;simpa [Addr.add] using this
  exact p
 ·have:=h.cell 1
  simpa [Addr.add] using this
theorem u7 {w:World} (q:j.length=8) (h:∀(i:Nat) v l,j[i]?=some v->iG[i]?=some l->bN lo w v l):rD w j iG :=
 ⟨q,rfl,fun i v l p o=>by
  have hs:iG.all (fun l=>decide (l.length<=1000000) && l.all fun y=>decide (y.length<=1000000))=true:=Z2;have g:=List.all_eq_true.1 hs l (Yo o);simp only [YF,Yw,List.all_eq_true] at g
  exact ⟨(h i v l p o).txc,g.1,g.2⟩⟩
theorem bN.keepL {w:World} {ls:List (List UInt8)} (h:bN g w v ls) (z:lo<=g) (hs:w.heap.size<=V.heap.size) (u:∀p:Addr,lo<=p.block->p.block<w.heap.size->V.cell? p=w.cell? p):bN g V v ls:=by
 obtain ⟨A,c,e,r,q⟩:=h;exact ⟨A,c,e,r,q.keep hs (fun p j o=>u p (Yg z j) o)⟩
theorem NQ {w:World} (h:GrC w A gs) (v:∀g,A=some g->lo<=g.block) (hs:w.heap.size<=V.heap.size) (q:∀p:Addr,lo<=p.block->p.block<w.heap.size->V.cell? p=w.cell? p):GrC V A gs:=fun k j=>by
 obtain ⟨g,e,h1,r,u⟩:=h k j;have o:=v g e;exact ⟨g,e,Yi h1 hs,(q _ (by rw [ax];exact o) XS).trans r,(q _ (by show lo<=(g.add (k*2)).block;rw [ax];exact o) (by show (g.add (k*2)).block<_;rw [ax];exact h1)).trans u⟩
section
variable {w : World}
theorem Jl (hM:gL w) (g:Int):Calls prog 37 #[.bool true,.int .i64 g] w (fun e w'=>∃o N C B1 m1 D q O F r P G u Q I z R J A S K B T L B8 d8 B9 d9,e=.returned (.agg #[.bool true,.string ⟨#[112,108,97,105,110]⟩,.string ⟨#[]⟩,.slice o N C,.slice B1 m1 D,.slice q O F,.slice r P G,.slice u Q I,.slice z R J,.slice A S K,.slice B T L,.slice B8 1 d8,.int .i64 g,.slice B9 1 d9,.int .i64 3,.int .i64 0,.string ⟨#[]⟩,.slice none 0 0,.bool false,.bool false,.int .u32 0,.int .u32 0,.int .u32 0])/\CfM w' [112,108,97,105,110] [] [] [.slice o N C,.slice B1 m1 D,.slice q O F,.slice r P G,.slice u Q I,.slice z R J,.slice A S K,.slice B T L] iG B8 d8 [[115,115,104,45,101,100,50,53,53,49,57]] B9 [([97,110,110],8)] none []/\(∀V:World,w'.heap.size<=V.heap.size->(∀p:Addr,w.heap.size<=p.block->p.block<w'.heap.size->V.cell? p=w'.cell? p)->CfM V [112,108,97,105,110] [] [] [.slice o N C,.slice B1 m1 D,.slice q O F,.slice r P G,.slice u Q I,.slice z R J,.slice A S K,.slice B T L] iG B8 d8 [[115,115,104,45,101,100,50,53,53,49,57]] B9 [([97,110,110],8)] none [])/\Below w.heap.size w w'):=by
 obtain ⟨W0,hW0⟩:∃W0,W0=w.alloc (.cells qO 30):=⟨_,rfl⟩
 have a4:Below w.heap.size w W0:=Zg;have a0:Blk W0 w.heap.size 30 qO:=Zk;have HP:=hide (Gq (hM.below a4));have HX:=hide (Y4 a4 a0);have Y:=a0.lt;clear a4 a0 hM;go_enter func37,ntmps37;go_upto_region 1 with fail;unfold qO at hW0;rw [<-hW0];clear hW0;refine wp_region_lit ?_;refine gJ (v:=.bool true) (w':=W0) rfl rfl ?_
 try simp only [Act.put,J0,JT,Y0]
 refine gX (f:=84) (args:=#[]) rfl Zn HP.out ?_;rintro e w1 ⟨o,N,C,B1,m1,D,q,O,F,r,P,G,u,Q,I,z,R,J,A,S,K,B,T,L,rfl,aq,a5⟩;refine ⟨_,rfl,?_⟩
 try simp only [Act.put,J0,JT,Y0]
 obtain ⟨w2,ao⟩:∃w2,w2=w1.alloc (.cells #[.string ⟨#[115,115,104,45,101,100,50,53,53,49,57]⟩] 9):=⟨_,rfl⟩
 have aF:bN w1.heap.size w2 (.slice (some ⟨w1.heap.size,0,none⟩) 1 1) [[115,115,104,45,101,100,50,53,53,49,57]]:=by rw [ao];exact lZ [[115,115,104,45,101,100,50,53,53,49,57]]
 have a6:Below w1.heap.size w1 w2:=by rw [ao];exact eY _
 refine gJ (v:=.slice (some ⟨w1.heap.size,0,none⟩) 1 1) (w':=w2) rfl (by rw [ao];go_simp) ?_;clear ao
 obtain ⟨gb,am⟩:∃gb,gb=w1.heap.size:=⟨_,rfl⟩
 rw [<-am] at aF;simp only [<-am];have ba:=hide am;clear am
 try simp only [Act.put,J0,JT,Y0]
 refine gJ (v:=.agg #[.bool true,.string ⟨#[112,108,97,105,110]⟩,.string ⟨#[]⟩,.slice o N C,.slice B1 m1 D,.slice q O F,.slice r P G,.slice u Q I,.slice z R J,.slice A S K,.slice B T L,.slice (some ⟨gb,0,none⟩) 1 1,.int .i64 0,.slice none 0 0,.int .i64 0,.int .i64 0,.string ⟨#[]⟩,.slice none 0 0,.bool false,.bool false,.int .u32 0,.int .u32 0,.int .u32 0]) (w':=w2) rfl (TZ _ rfl _ rfl rfl rfl rfl _) ?_
 try simp only [Act.put,J0,JT,Y0]
 obtain ⟨w3,ap⟩:∃w3,w3=w2.alloc (.cells qO 30):=⟨_,rfl⟩
 have af:Blk w3 w2.heap.size 30 qO:=by rw [ap];exact Blk.new w2 _ _
 have hb3:Below w2.heap.size w2 w3:=by rw [ap];exact eY _
 refine gJ (v:=.pointer (some ⟨w2.heap.size,0,none⟩)) (w':=w3) rfl (by rw [ap];exact Mf _ rfl _ _) ?_;clear ap;have bx:=a6.size;have bw:=a5.size
 obtain ⟨b5,hb5⟩:∃b5,b5=w2.heap.size:=⟨_,rfl⟩
 rw [<-hb5] at af;simp only [<-hb5]
 try simp only [Act.put,J0,JT,Y0]
 refine ja rfl (.tmp 5) (.tmp 9) rfl Z5 Z5 af rfl rfl Zd ?_
 have h:Blk (w3.setCells b5 0 [.bool true,.string ⟨#[112,108,97,105,110]⟩,.string ⟨#[]⟩,.slice o N C,.slice B1 m1 D,.slice q O F,.slice r P G,.slice u Q I,.slice z R J,.slice A S K,.slice B T L,.slice (some ⟨gb,0,none⟩) 1 1,.int .i64 0,.slice none 0 0,.int .i64 0,.int .i64 0,.string ⟨#[]⟩,.slice none 0 0,.bool false,.bool false,.int .u32 0,.int .u32 0,.int .u32 0]) b5 30 #[.bool true,.string ⟨#[112,108,97,105,110]⟩,.string ⟨#[]⟩,.slice o N C,.slice B1 m1 D,.slice q O F,.slice r P G,.slice u Q I,.slice z R J,.slice A S K,.slice B T L,.slice (some ⟨gb,0,none⟩) 1 1,.int .i64 0,.slice none 0 0,.int .i64 0,.int .i64 0,.string ⟨#[]⟩,.slice none 0 0,.bool false,.bool false,.int .u32 0,.int .u32 0,.int .u32 0]:=by
  have h9:=Blk.setCells [.bool true,.string ⟨#[112,108,97,105,110]⟩,.string ⟨#[]⟩,.slice o N C,.slice B1 m1 D,.slice q O F,.slice r P G,.slice u Q I,.slice z R J,.slice A S K,.slice B T L,.slice (some ⟨gb,0,none⟩) 1 1,.int .i64 0,.slice none 0 0,.int .i64 0,.int .i64 0,.string ⟨#[]⟩,.slice none 0 0,.bool false,.bool false,.int .u32 0,.int .u32 0,.int .u32 0] 0 af;rw [oC Z5] at h9;exact h9
 have a7:Below w2.heap.size w2 (w3.setCells b5 0 [.bool true,.string ⟨#[112,108,97,105,110]⟩,.string ⟨#[]⟩,.slice o N C,.slice B1 m1 D,.slice q O F,.slice r P G,.slice u Q I,.slice z R J,.slice A S K,.slice B T L,.slice (some ⟨gb,0,none⟩) 1 1,.int .i64 0,.slice none 0 0,.int .i64 0,.int .i64 0,.string ⟨#[]⟩,.slice none 0 0,.bool false,.bool false,.int .u32 0,.int .u32 0,.int .u32 0]):=below_setCells Z0 [.bool true,.string ⟨#[112,108,97,105,110]⟩,.string ⟨#[]⟩,.slice o N C,.slice B1 m1 D,.slice q O F,.slice r P G,.slice u Q I,.slice z R J,.slice A S K,.slice B T L,.slice (some ⟨gb,0,none⟩) 1 1,.int .i64 0,.slice none 0 0,.int .i64 0,.int .i64 0,.string ⟨#[]⟩,.slice none 0 0,.bool false,.bool false,.int .u32 0,.int .u32 0,.int .u32 0] 0 hb3;generalize w3.setCells b5 0 [.bool true,.string ⟨#[112,108,97,105,110]⟩,.string ⟨#[]⟩,.slice o N C,.slice B1 m1 D,.slice q O F,.slice r P G,.slice u Q I,.slice z R J,.slice A S K,.slice B T L,.slice (some ⟨gb,0,none⟩) 1 1,.int .i64 0,.slice none 0 0,.int .i64 0,.int .i64 0,.string ⟨#[]⟩,.slice none 0 0,.bool false,.bool false,.int .u32 0,.int .u32 0,.int .u32 0]=j at h a7 ⊢
 try simp only [Act.put,J0,JT,Y0]
 have bb:=h.cell 12;have bn:=h.frozen 12;have bc:=h.cell 13;have bo:=h.frozen 13;have bd:=h.cell 14;have bp:=h.frozen 14;simp only [Jx,Q1,Q2] at bb bc bd;have bt:=h.lt;have U:=hide (Y4 h (Y4 a7 (Y4 aF (Y4 a6 (Y4 aq a5)))));have bg:=hide hb5;clear h a7 aF a6 aq a5 af hb3 hb5;go_upto_region 4 with fail;have bm:=U.out.2.2.2.1.size;have br:=U.out.2.2.2.2.2.size;have bq:=HX.out.1.size;have b0:=bg.out
 have X:Blk (((((j.setCell ⟨b5,12,none⟩ (.int .i64 g)).setCell ⟨b5,13,none⟩ (.slice (some ⟨j.heap.size,0,none⟩) 1 1)).setCell ⟨b5,14,none⟩ (.int .i64 3)).alloc (.cells #[.string ⟨#[97,110,110]⟩,.int .i64 8] 158))) b5 30 #[.bool true,.string ⟨#[112,108,97,105,110]⟩,.string ⟨#[]⟩,.slice o N C,.slice B1 m1 D,.slice q O F,.slice r P G,.slice u Q I,.slice z R J,.slice A S K,.slice B T L,.slice (some ⟨gb,0,none⟩) 1 1,.int .i64 g,.slice (some ⟨j.heap.size,0,none⟩) 1 1,.int .i64 3,.int .i64 0,.string ⟨#[]⟩,.slice none 0 0,.bool false,.bool false,.int .u32 0,.int .u32 0,.int .u32 0]:=by
  have h9:=((((U.out.1.set_ 12 (.int .i64 g)).set_ 13 (.slice (some ⟨j.heap.size,0,none⟩) 1 1)).set_ 14 (.int .i64 3)).alloc (.cells #[.string ⟨#[97,110,110]⟩,.int .i64 8] 158))
  simpa using h9
 have aw:Below w2.heap.size w2 (((((j.setCell ⟨b5,12,none⟩ (.int .i64 g)).setCell ⟨b5,13,none⟩ (.slice (some ⟨j.heap.size,0,none⟩) 1 1)).setCell ⟨b5,14,none⟩ (.int .i64 3)).alloc (.cells #[.string ⟨#[97,110,110]⟩,.int .i64 8] 158))):=(((((U.out.2.1).setCell (p:=⟨b5,12,none⟩) ZW _).setCell (p:=⟨b5,13,none⟩) ZW _).setCell (p:=⟨b5,14,none⟩) ZW _).alloc Xe _)
 have av:Below w1.heap.size w1 (((((j.setCell ⟨b5,12,none⟩ (.int .i64 g)).setCell ⟨b5,13,none⟩ (.slice (some ⟨j.heap.size,0,none⟩) 1 1)).setCell ⟨b5,14,none⟩ (.int .i64 3)).alloc (.cells #[.string ⟨#[97,110,110]⟩,.int .i64 8] 158))):=(((((U.out.2.2.2.1.trans (U.out.2.1.mono bm)).setCell (p:=⟨b5,12,none⟩) ZW _).setCell (p:=⟨b5,13,none⟩) ZW _).setCell (p:=⟨b5,14,none⟩) ZW _).alloc Xe _)
 have aa:Below W0.heap.size W0 (((((j.setCell ⟨b5,12,none⟩ (.int .i64 g)).setCell ⟨b5,13,none⟩ (.slice (some ⟨j.heap.size,0,none⟩) 1 1)).setCell ⟨b5,14,none⟩ (.int .i64 3)).alloc (.cells #[.string ⟨#[97,110,110]⟩,.int .i64 8] 158))):=(((((U.out.2.2.2.2.2.trans ((U.out.2.2.2.1.trans (U.out.2.1.mono bm)).mono br)).setCell (p:=⟨b5,12,none⟩) ZW _).setCell (p:=⟨b5,13,none⟩) ZW _).setCell (p:=⟨b5,14,none⟩) ZW _).alloc Xe _)
 have ab:Blk (((((j.setCell ⟨b5,12,none⟩ (.int .i64 g)).setCell ⟨b5,13,none⟩ (.slice (some ⟨j.heap.size,0,none⟩) 1 1)).setCell ⟨b5,14,none⟩ (.int .i64 3)).alloc (.cells #[.string ⟨#[97,110,110]⟩,.int .i64 8] 158))) j.heap.size 158 #[.string ⟨#[97,110,110]⟩,.int .i64 8]:=by
  have h9:=Blk.new (((j.setCell ⟨b5,12,none⟩ (.int .i64 g)).setCell ⟨b5,13,none⟩ (.slice (some ⟨j.heap.size,0,none⟩) 1 1)).setCell ⟨b5,14,none⟩ (.int .i64 3)) 158 #[.string ⟨#[97,110,110]⟩,.int .i64 8];simpa only [World.size_setCell] using h9
 have ac:=HX.out.2.below aa Y;have bj:w.heap.size≠j.heap.size:=Z0;have bl:w.heap.size<=j.heap.size:=Z0;generalize ((((j.setCell ⟨b5,12,none⟩ (.int .i64 g)).setCell ⟨b5,13,none⟩ (.slice (some ⟨j.heap.size,0,none⟩) 1 1)).setCell ⟨b5,14,none⟩ (.int .i64 3)).alloc (.cells #[.string ⟨#[97,110,110]⟩,.int .i64 8] 158))=w6 at X aw av aa ab ac ⊢;generalize j.heap.size=g2 at X ab bj bl ⊢;have Z:(#[.bool true,.string ⟨#[112,108,97,105,110]⟩,.string ⟨#[]⟩,.slice o N C,.slice B1 m1 D,.slice q O F,.slice r P G,.slice u Q I,.slice z R J,.slice A S K,.slice B T L,.slice (some ⟨gb,0,none⟩) 1 1,.int .i64 g,.slice (some ⟨g2,0,none⟩) 1 1,.int .i64 3,.int .i64 0,.string ⟨#[]⟩,.slice none 0 0,.bool false,.bool false,.int .u32 0,.int .u32 0,.int .u32 0]:Array Value).all (·.oneCell')=true:=Zd
 obtain ⟨cF,a8⟩:∃c:Array Value,c=#[.bool true,.string ⟨#[112,108,97,105,110]⟩,.string ⟨#[]⟩,.slice o N C,.slice B1 m1 D,.slice q O F,.slice r P G,.slice u Q I,.slice z R J,.slice A S K,.slice B T L,.slice (some ⟨gb,0,none⟩) 1 1,.int .i64 g,.slice (some ⟨g2,0,none⟩) 1 1,.int .i64 3,.int .i64 0,.string ⟨#[]⟩,.slice none 0 0,.bool false,.bool false,.int .u32 0,.int .u32 0,.int .u32 0]:=⟨_,rfl⟩
 have an:cF.toList.length=23:=by rw [a8];rfl
 rw [<-a8] at X Z;refine wp_region_lit ?_;refine df rfl (.tmp 5) rfl Z5 X an ?_
 try simp only [Act.put,J0,JT,Y0]
 refine ja rfl (.tmp 4) (.tmp 17) rfl Z5 Z5 ac rfl an Z ?_
 have be:Blk (w6.setCells w.heap.size 0 cF.toList) w.heap.size 30 cF:=by
  have h9:=Blk.setCells cF.toList 0 ac;rw [oC (by rw [an];rfl),YN] at h9;exact h9
 have aE:=Blk.setCells_far (Ne.symm bj) cF.toList 0 ab;have bh:Below w.heap.size w (w6.setCells w.heap.size 0 cF.toList):=below_setCells (Y2 _) _ _ (HX.out.1.trans (aa.mono bq));have a9:∀(i:Nat) v l,([.slice o N C,.slice B1 m1 D,.slice q O F,.slice r P G,.slice u Q I,.slice z R J,.slice A S K,.slice B T L]:List Value)[i]?=some v->iG[i]?=some l->bN _ _ v l:=fun i v l h1 h2=>bN.setCells Y cF.toList 0 ((U.out.2.2.2.2.1 i v l h1 h2).belowW av)
 have a3:=bN.setCells (b:=w.heap.size) (by have:=ba.out;omega) cF.toList 0 (U.out.2.2.1.belowW aw);generalize w6.setCells w.heap.size 0 cF.toList=w7 at be aE bh a9 a3 ⊢;clear X aw av aa ab ac Z U HX bb bn bc bo bd bp
 try simp only [Act.put,J0,JT,Y0]
 go_wp2_with fail;refine bodyPost_ret (Az rfl Z5 be an) rfl ?_;subst a8;exact ⟨o,N,C,B1,m1,D,q,O,F,r,P,G,u,Q,I,z,R,J,A,S,K,B,T,L,some ⟨gb,0,none⟩,1,some ⟨g2,0,none⟩,1,rfl,⟨Z2,Z2,Z2,u7 rfl a9,a3.txc.1,Y2 _,Z2,Z2,IG aE,Z2,Z2,(fun k hk=>absurd hk (Nat.not_lt_zero _)),Z2⟩,fun V hs hk=>⟨Z2,Z2,Z2,u7 rfl (fun i v l h1 h2=>(a9 i v l h1 h2).keepL (YC Y) hs hk),(a3.keepL (by have:=ba.out;omega) hs hk).txc.1,Y2 _,Z2,Z2,NQ (IG aE) (fun ad e=>by cases e;exact bl) hs hk,Z2,Z2,(fun k hk=>absurd hk (Nat.not_lt_zero _)),Z2⟩,bh⟩
end
section
variable {w : World}
theorem pU {P:Program} {g:Array Oper} (hw:Region.wanted o (yielded g a.tmps)=true)
  (h:∀K:Act->World->Prop,(∀a w,wpList P g Q rest a w->K a w)->o.wp P a w K Q):wpList P g Q (o :: rest) a w:=by
 unfold wpList;rw [Y6 hw];exact .inl (h _ (fun _ _ h=>h))
theorem aX {g:Array Oper} {j:Oper} (hw:Region.wanted j (yielded g a.tmps)=true) (p:(execOp a.eval j).run prog w=.ok (.value v) w')
  (h:wpList prog g Q rest (a.put j.dst v) w'):wpList prog g Q (j :: rest) a w :=
 pU hw fun _ o=>by
  unfold Oper.wp;rw [p];exact o _ _ h
theorem eQ {j:Array Oper} (hw:Region.wanted o (yielded j a.tmps)=true) (hr:(execOp a.eval o).run prog w=.ok (.enter f args) w)
  {g:Ending->World->Prop} (hc:Calls prog f args w g) (h:∀e w',g e w'->∃r,e=.returned r/\wpList prog j Q rest (a.put o.dst r) w'):wpList prog j Q (o :: rest) a w :=
 pU hw fun _ hK=>by
  exact zz469
end
def jQ (gs:List (List UInt8 × Int)):List Value:=gs.flatMap fun g=>[.string (bs g.1),.int .i64 g.2]
theorem y9 (gs:List (List UInt8 × Int)):(jQ gs).length=gs.length*2:=by
 induction gs with
 | nil=>rfl
 | cons g r ih =>
  show (jQ r).length+2=_;rw [ih,Yv];omega
theorem tH:∀(gs:List (List UInt8 × Int)) (k:Nat),(hk:k<gs.length)->(jQ gs)[k*2]?=some (.string (bs gs[k].1))/\(jQ gs)[k*2+1]?=some (.int .i64 gs[k].2)
 | g :: r,0,_=>⟨rfl,rfl⟩
 | g :: r,k+1,hk=>by
  have h:=tH r k Xd
  have j:(jQ (g :: r))[(k+1)*2]?=(jQ r)[k*2]?:=by
   show (Value.string (bs g.1) :: Value.int .i64 g.2 :: jQ r)[(k+1)*2]?=_;rw [show (k+1)*2=k*2+1+1 by omega,Q2,Q2]
  have o:(jQ (g :: r))[(k+1)*2+1]?=(jQ r)[k*2+1]?:=by
   show (Value.string (bs g.1) :: Value.int .i64 g.2 :: jQ r)[(k+1)*2+1]?=_;rw [show (k+1)*2+1=k*2+1+1+1 by omega,Q2,Q2]
  rw [j,o];exact h
theorem KP (gs:List (List UInt8 × Int)):∀u∈jQ gs,u.oneCell'=true:=by
 intro u j;unfold jQ at j;obtain ⟨g,_,h⟩:=List.mem_flatMap.1 j;simp only [Yz,List.mem_nil_iff,or_false] at h;rcases h with rfl | rfl <;> rfl
theorem RQ {g:Addr} {k:Nat}:g.add (k*2+1)=⟨(g.add (k*2)).block,(g.add (k*2)).off+1,none⟩:=by
 rw [rV]
 cases k with
 | zero=>simp [Addr.add]
 | succ m=>simp [Addr.add];omega
theorem GrC.reads {w:World} (h:GrC w A gs):Reads w w.heap.size 2 A gs.length (jQ gs):=by
 refine ⟨y9 gs,fun F=>?_⟩;obtain ⟨r,e,q,_⟩:=h 0 F;refine ⟨r,e,q,fun j u g=>?_⟩;have G:j<gs.length*2:=by rw [<-y9];exact (Yx.1 g).1
 have z:j / 2<gs.length:=Z0;obtain ⟨o,v,_,c0,c1⟩:=h (j / 2) z;obtain rfl:r=o:=by rw [e] at v;exact Y9 v
 obtain ⟨B,C⟩:=tH gs (j / 2) z;rcases Nat.mod_two_eq_zero_or_one j with D | D
 ·have p:j=j / 2*2:=by omega
  generalize j / 2=m at *;subst p;rw [B] at g;cases g
  exact c0
 ·have p:j=j / 2*2+1:=by omega
  generalize j / 2=m at *;subst p;rw [C] at g;cases g
  rw [RQ];exact c1
theorem InC.reads {w:World} {p:List Int} (h:InC w A p):Reads w w.heap.size 1 A p.length (p.map (Value.int .i64)):=by
 refine ⟨Z3,fun B=>?_⟩;obtain ⟨q,e,o,_⟩:=h 0 B;refine ⟨q,e,o,fun j u v=>?_⟩;rw [Yt,Option.map_eq_some_iff] at v;obtain ⟨x,C,rfl⟩:=v;obtain ⟨z,rfl⟩:=Yx.1 C;obtain ⟨g,r,_,c0⟩:=h j z;obtain rfl:q=g:=by rw [e] at r;exact Y9 r
 exact c0
theorem Om {v:List Value} {w:World} (p:Reads w w.heap.size 2 A n v) (g:∀u∈v,u.oneCell'=true) (K:n<=1000000) :
  Calls prog 144 #[.slice A n c] w fun e w'=>∃v',e=.returned v'/\w'.ownsRow w.heap.size 158 2 v' n v/\Below w.heap.size w w':=by
 obtain ⟨J,hi,B,C,D⟩:=eP (show (prog.info? 158).map (fun i=>(i.zero,i.size,i.bytes))=some (some (.agg #[.string ByteArray.empty,.int .i64 0]),2,24) from Z1);have q:∀(w:World) (a:Option Addr) (n c F z:Nat),(binOp .eql 25 (.slice a n c) (.slice none F z)).run prog w=.ok (.bool a.isNone) w:=fun w a n c F z=>Lib.run_eql_slice_nil w _ _ a n c F z underlying25
 cases A with
 | none =>
  have o:n=0:=by
   rcases Nat.eq_zero_or_pos n with o | o
   ·exact o
   ·obtain ⟨G,h,_⟩:=p.2 o
    cases h
  subst o;have I:v=[]:=Yc (by have:=p.1;omega);subst I;clear p g;go_enter func144,ntmps144;exact zzc58
 | some G =>
  have r:=p.alloc (Y2 _) (.cells #[] 158);have j:=hide g;have Hr:=hide (r.more (YB _));clear g r p;go_enter func144,ntmps144;go_wp2_with (at_builtin;refine aB _ rfl (.tmp 5) (.tmp 6) _ rfl w.heap.size 158 J (.agg #[.string ByteArray.empty,.int .i64 0]) 2 24 underlying25 hi B C D rfl Z2 _ 0 [] rfl (World.ownsRow_made w #[] 0 (Y2 _) (Yb _) Z3) (w.heap.size+1) (some G) n c v rfl X5 j.out Ze Z0 Z3 ?_;intro v' w1 hown hgrow _);exact zz570
theorem Og (g:Addr) (m:Nat):g.add (m+1)=⟨(g.add m).block,(g.add m).off+1,none⟩:=by
 unfold Addr.add
 by_cases h:m=0 <;> simp [h,Nat.add_assoc]
theorem R4 {w:World} (h:w.ownsRow lo t 2 (.slice A gs.length c) gs.length (jQ gs)):GrC w A gs:=fun k r=>by
 have u:=Reads.of_own h;obtain ⟨o,e,g,j⟩:=u.2 Z0;obtain ⟨p,q⟩:=tH gs k r;refine ⟨o,e,g,j _ _ p,?_⟩;rw [<-Og];exact j _ _ q
theorem N8 {o:il} (h:inC o=none):o=none:=by
 cases o with
 | none=>rfl
 | some x=>cases h
def OB (sv:Bool) (sw cm us:List UInt8) (ls:List (List (List UInt8))) (own lim peer q0 q1 q2:Int) (al:List (List UInt8)) (gr:List (List UInt8 × Int)) (ky:List Int):il :=
 if sv=true then inC (dQ [unl (bV sw cm != []) [118,101,114,115,105,111,110] 1,prR (prW ls),unl (aG own) [111,119,110] 5,bQ (aS gr al lim)]) else inC (dQ [unl (bV sw cm != []) [118,101,114,115,105,111,110] 1,prR (prW ls),unl (aG peer) [112,101,101,114] 5,unl (bW us) [117,115,101,114] 3,ib ky,bQ (aS [] al 1),unl (aW q0 q1 q2) [119,105,115,104] 5])
section
variable {w : World}
theorem EH (h:gL w) (j:iW w) (g:CfM w sw cm us [.slice A0 n0 c0,.slice A1 n1 c1,.slice A2 n2 c2,.slice A3 n3 c3,.slice A4 n4 c4,.slice A5 n5 c5,.slice A6 n6 c6,.slice A7 n7 c7] ls A8 c8 al A9 gr A10 ky):Calls prog 81 #[.agg #[.bool sv,.string (bs sw),.string (bs cm),.slice A0 n0 c0,.slice A1 n1 c1,.slice A2 n2 c2,.slice A3 n3 c3,.slice A4 n4 c4,.slice A5 n5 c5,.slice A6 n6 c6,.slice A7 n7 c7,.slice A8 al.length c8,.int .i64 own,.slice A9 gr.length c9,.int .i64 lim,.int .i64 peer,.string (bs us),.slice A10 ky.length c10,.bool ex,.bool ge,.int .u32 q0,.int .u32 q1,.int .u32 q2]] w (gm (OB sv sw cm us ls own lim peer q0 q1 q2 al gr ky) w):=by
 cases sv with
 | true=>exact R5 h j g
 | false=>exact QB h j g
end
structure CfP where
 sv:Bool
 ex:Bool
 ge:Bool
 sw:List UInt8
 cm:List UInt8
 us:List UInt8
 A0:Option Addr
 A1:Option Addr
 A2:Option Addr
 A3:Option Addr
 A4:Option Addr
 A5:Option Addr
 A6:Option Addr
 A7:Option Addr
 A8:Option Addr
 A9:Option Addr
 A10:Option Addr
 n0:Nat
 n1:Nat
 n2:Nat
 n3:Nat
 n4:Nat
 n5:Nat
 n6:Nat
 n7:Nat
 c0:Nat
 c1:Nat
 c2:Nat
 c3:Nat
 c4:Nat
 c5:Nat
 c6:Nat
 c7:Nat
 c8:Nat
 c9:Nat
 c10:Nat
 al:List (List UInt8)
 own:Int
 lim:Int
 peer:Int
 q0:Int
 q1:Int
 q2:Int
 gr:List (List UInt8 × Int)
 ky:List Int
 ls:List (List (List UInt8))
def CfP.cells (c:CfP):Array Value:=#[.bool c.sv,.string (bs c.sw),.string (bs c.cm),.slice c.A0 c.n0 c.c0,.slice c.A1 c.n1 c.c1,.slice c.A2 c.n2 c.c2,.slice c.A3 c.n3 c.c3,.slice c.A4 c.n4 c.c4,.slice c.A5 c.n5 c.c5,.slice c.A6 c.n6 c.c6,.slice c.A7 c.n7 c.c7,.slice c.A8 c.al.length c.c8,.int .i64 c.own,.slice c.A9 c.gr.length c.c9,.int .i64 c.lim,.int .i64 c.peer,.string (bs c.us),.slice c.A10 c.ky.length c.c10,.bool c.ex,.bool c.ge,.int .u32 c.q0,.int .u32 c.q1,.int .u32 c.q2]
def CfP.val (c:CfP):Value:=.agg c.cells
def CfP.M (c:CfP) (w:World):Prop:=CfM w c.sw c.cm c.us [.slice c.A0 c.n0 c.c0,.slice c.A1 c.n1 c.c1,.slice c.A2 c.n2 c.c2,.slice c.A3 c.n3 c.c3,.slice c.A4 c.n4 c.c4,.slice c.A5 c.n5 c.c5,.slice c.A6 c.n6 c.c6,.slice c.A7 c.n7 c.c7] c.ls c.A8 c.c8 c.al c.A9 c.gr c.A10 c.ky
theorem CfP.M.below {c:CfP} {w:World} (h:c.M w) (g:Below w.heap.size w w'):c.M w':=CfM.below h g
def CfP.err (c:CfP):il:=OB c.sv c.sw c.cm c.us c.ls c.own c.lim c.peer c.q0 c.q1 c.q2 c.al c.gr c.ky
section
variable {w : World}
theorem CfP.check (c:CfP) (g:gL w) (j:iW w) (h:c.M w):Calls prog 81 #[c.val] w (gm c.err w):=EH g j h
theorem CfP.rcheck (c:CfP) (h:c.M w) (g:IntKind.i64.wrap c.q0=c.q0) (j:IntKind.i64.wrap c.q1=c.q1) (o:IntKind.i64.wrap c.q2=c.q2) :
  Calls prog 88 #[c.val] w (fun e w'=>e=.returned (.tuple #[.int .i64 (qx c.err),.string (bs (uB c.err))])/\Below w.heap.size w w'):=by
 obtain ⟨sv,ex,ge,sw,cm,us,A0,A1,A2,A3,A4,A5,A6,A7,A8,A9,A10,n0,n1,n2,n3,n4,n5,n6,n7,c0,c1,c2,c3,c4,c5,c6,c7,c8,c9,c10,al,own,lim,peer,q0,q1,q2,gr,ky,ls⟩:=c
 cases sv with
 | true=>exact Mh h g j o
 | false=>exact NM h g j o
end
def lW (n:Nat) (o:il):Prop:=∀ps k,o=some (ps,k)->k≠0/\ps.length<=n/\∀p∈ps,p.length<=1000
theorem kr (b:Bool) {s:List UInt8} {k:Int} (g:k≠0) (hs:s.length<=1000):lW 2 (unl b s k):=fun ps j h=>by
 cases b with
 | true=>cases h
 | false =>
  cases h
  exact ⟨g,Z3,fun p hp=>by simp only [Ym] at hp;subst hp;exact hs⟩
theorem BP (ls:List (List (List UInt8))):lW 2 (prR (prW ls)):=fun ps k h=>by
 rcases fq (prW ls) with hp | ⟨⟨i,z⟩,hp⟩
 ·rw [hp] at h;cases h
 ·rw [hp] at h
  cases h
  refine ⟨(vD hp).1,Z3,fun p g=>?_⟩;simp only [Yz,List.mem_nil_iff,or_false] at g;rcases g with rfl | rfl
  ·decide
  ·exact Yg (rW i) Z2
theorem vJ (gs:List (List UInt8 × Int)) (al:List (List UInt8)) (lim:Int):lW 2 (bQ (aS gs al lim)):=fun ps k h=>by
 rcases fq (aS gs al lim) with hp | ⟨⟨s,z⟩,hp⟩
 ·rw [hp] at h;cases h
 ·rw [hp] at h
  cases h
  have g:=wX hp;refine ⟨g.1,Z3,fun p j=>?_⟩;simp only [Yz,List.mem_nil_iff,or_false] at j;rcases j with rfl | rfl
  ·decide
  ·exact Yg g.2 Z2
theorem K8 (j:List Int):lW 2 (ib j):=fun ps k h=>by
 unfold ib at h
 split at h
 ·cases h
 ·rename_i g
  cases h
  exact ⟨g,Z3,fun p hp=>Xm⟩
theorem sP:∀(l:List il),(∀o∈l,lW 2 o)->lW 2 (dQ l)
 | [],_=>fun ps k h=>by cases h
 | none :: r,h=>sP r (fun o g=>h o (List.mem_cons_of_mem _ g))
 | some x :: r,h=>h (some x) (List.mem_cons_self ..)
theorem BH {o:il} (h:lW 2 o):lW 3 (inC o):=fun ps k e=>by
 cases o with
 | none=>cases e
 | some x =>
  obtain ⟨q,z⟩:=x;cases e
  obtain ⟨g,r,j⟩:=h q z rfl;refine ⟨g,XG,fun p hp=>?_⟩;rcases Yz.1 hp with rfl | hp
  ·decide
  ·exact j p hp
theorem GU (sv:Bool) (sw cm us:List UInt8) (ls:List (List (List UInt8))) (own lim peer q0 q1 q2:Int) (al:List (List UInt8)) (gr:List (List UInt8 × Int)) (ky:List Int):lW 3 (OB sv sw cm us ls own lim peer q0 q1 q2 al gr ky):=by
 unfold OB
 split
 ·refine BH (sP _ fun o g=>?_)
  simp only [Yz,List.not_mem_nil,or_false] at g;rcases g with rfl | rfl | rfl | rfl
  ·exact kr _ Z2 Z2
  ·exact BP _
  ·exact kr _ Z2 Z2
  ·exact vJ _ _ _
 ·refine BH (sP _ fun o g=>?_)
  simp only [Yz,List.not_mem_nil,or_false] at g;rcases g with rfl | rfl | rfl | rfl | rfl | rfl | rfl
  ·exact kr _ Z2 Z2
  ·exact BP _
  ·exact kr _ Z2 Z2
  ·exact kr _ Z2 Z2
  ·exact K8 _
  ·exact vJ _ _ _
  ·exact kr _ Z2 Z2
end Go.Proofs.YtnhekaepgpbijaaGreatDoor
