/- Several of my texts in one: EncG, ReadW, DecW, Gets. -/
import Derived.Test.YtnhekaepgpbijaaGreatDoorKAli
import Derived.Test.YtnhekaepgpbijaaGreatDoorKKxPGG
import Derived.Test.YtnhekaepgpbijaaGreatDoorKCfDG
import Derived.Test.YtnhekaepgpbijaaGreatDoorKChnG
import Derived.Lib.OthersKept
import Derived.WalkSmall
import Derived.Test.YtnhekaepgpbijaaGreatDoorKRSpG
import Derived.Lib.QuietBelow
import Derived.Deep.RegionHeld3
import Derived.Deep.DeepCutAuto
set_option linter.unusedVariables false
set_option linter.unusedSimpArgs false
set_option maxHeartbeats 40000000
set_option maxRecDepth 100000
namespace Go.Proofs.YtnhekaepgpbijaaGreatDoor
open Go.Proofs.Tryz Go.RowKit
def Me (n:Int):ByteArray :=
 if n=50 then ⟨#[117,115,101,114,97,117,116,104,45,114,101,113,117,101,115,116]⟩ else if n=51 then ⟨#[117,115,101,114,97,117,116,104,45,102,97,105,108,117,114,101]⟩ else if n=52 then ⟨#[117,115,101,114,97,117,116,104,45,115,117,99,99,101,115,115]⟩ else if n=53 then ⟨#[117,115,101,114,97,117,116,104,45,98,97,110,110,101,114]⟩ else if n=60 then ⟨#[117,115,101,114,97,117,116,104,45,112,107,45,111,107]⟩ else ⟨#[]⟩
def word (n:Int):ByteArray :=
 if n=1 then ⟨#[100,105,115,99,111,110,110,101,99,116]⟩ else if n=2 then ⟨#[105,103,110,111,114,101]⟩ else if n=3 then ⟨#[117,110,105,109,112,108,101,109,101,110,116,101,100]⟩ else if n=4 then ⟨#[100,101,98,117,103]⟩ else if n=5 then ⟨#[115,101,114,118,105,99,101,45,114,101,113,117,101,115,116]⟩ else if n=6 then ⟨#[115,101,114,118,105,99,101,45,97,99,99,101,112,116]⟩ else if n=7 then ⟨#[101,120,116,45,105,110,102,111]⟩ else if n=20 then ⟨#[107,101,120,105,110,105,116]⟩ else if n=21 then ⟨#[110,101,119,107,101,121,115]⟩ else if n=30 then ⟨#[101,99,100,104,45,105,110,105,116]⟩ else if n=31 then ⟨#[114,101,112,108,121,45,111,114,45,103,114,111,117,112]⟩ else if n=32 then ⟨#[103,101,120,45,105,110,105,116]⟩ else if n=33 then ⟨#[103,101,120,45,114,101,112,108,121]⟩ else if n=34 then ⟨#[103,101,120,45,114,101,113,117,101,115,116]⟩ else Me n
theorem Np (n:Int) (w:World):Calls prog 95 #[.int .i64 n] w fun e w'=>e=.returned (.string (Me n))/\w=w':=by
 go_enter func95,ntmps95;go_wp2
 all_goals (go_ret;refine ⟨?_,rfl⟩;simp_all [Me])
theorem Cn (n:Int) (w:World):Calls prog 48 #[.int .i64 n] w fun e w'=>e=.returned (.string (word n))/\w=w':=by
 go_enter func48,ntmps48;go_wp2_with (go_at_call 95;refine (Np _ _).mono ?_;rintro e w' ⟨rfl,rfl⟩)
 all_goals (go_ret;refine ⟨?_,rfl⟩;simp_all [word])
def known (n:Int):Bool:=!(forms n).isEmpty
theorem tT (n:Int) (w:World):Calls prog 44 #[.int .i64 n] w fun e w'=>e=.returned (.bool (known n))/\Below w.heap.size w w':=by
 have h:=lK n;go_enter func44,ntmps44;go_wp2_with (go_at_call 45;refine (sK _ _).mono ?_;rintro e w1 ⟨v,rfl,⟨A,c,rfl,j⟩,g⟩);go_ret;refine ⟨gD ?_,g⟩;unfold known;cases forms n <;> simp
def num (s:ByteArray):Int × Bool:=match ((List.range 60).map (fun i=>((i+1:Nat):Int))).find? (fun n=>word n != ⟨#[]⟩ && word n == s) with | some n=>(n,true) | none=>(0,false)
end Go.Proofs.YtnhekaepgpbijaaGreatDoor

namespace Go.Proofs.YtnhekaepgpbijaaGreatDoor
open Go.Proofs.Tryz Go.RowKit Go.ChangeShapes Go.WideShapes Go.Sort
variable {l:List Fld} {i:Nat} {A:Option Addr}
def kZ:List UInt8:=[109,101,115,115,97,103,101]
def ic (num:Int):UF->Option (List (List UInt8) × Nat)
 | .ok _=>none
 | .none=>some ([kZ],6)
 | .long=>some ([(word num).data.toList],2)
 | .bad e i=>some ([(word num).data.toList,Lib.decDigits i],e)
def VV (num:Int) (l:List Fld) (w:World) (e:Ending) (w':World):Prop :=
 Below w.heap.size w w'/\((∃s,encS num l=.ok s/\e=.returned (.tuple #[.string (bs s),.nilIface])) \/
  (∃b ps,∃k:Nat,ic num (encS num l)=some (ps,k)/\e=.returned (.tuple #[.string ⟨#[]⟩,aK b])/\aZ w' (aK b) ps k))
theorem xC {f:List UInt8} (out:List UInt8) (g:i<f.length) (h:i<l.length) :
  gG (f.drop i) (l.drop i) i out=if l[i].k=f[i].toNat/\bK l[i]=true then (if (aH l[i]).1=0 then (if 32768<(out++(aH l[i]).2).length then .long else gG (f.drop (i+1)) (l.drop (i+1)) (i+1) (out++(aH l[i]).2)) else .bad (aH l[i]).1 i) else .bad 3 i:=by
 rw [List.drop_eq_getElem_cons g,List.drop_eq_getElem_cons h];rfl
theorem je {n:Int} {f:ByteArray} (h:f∈forms n):f.size<=13/\∀c∈f.data.toList,c.toNat<128:=by
 have key:∀g∈forms n,g.size<=13/\∀c∈g.data.toList,c.toNat<128:=by
  unfold forms
  repeat' refine rR (P:=fun l:List ByteArray=>∀g∈l,g.size<=13/\∀c∈g.data.toList,c.toNat<128) ?_ ?_
  all_goals decide
 exact key f h
theorem uo (x:Fld):(aH x).1<=5:=by
 unfold aH;have:=jJ x.l
 repeat' split
 all_goals simp
 all_goals omega
theorem Da {x:Fld} (g:SzF x):(aH x).2.length<=200000000:=by
 have hw:=kK x.s;have j:=o8 (aY x.s);have p:=g.s;have q:=vL g.l;have r:=g.n;unfold aH
 split
 ·split
  ·simp
  ·split <;> simp
 ·split
  ·split
   ·simp [bM]
   ·simp
  ·split
   ·split
    ·simp
    ·simp only [dY,Ya,bM]
     omega
   ·split
    ·split
     ·rename_i h
      obtain ⟨_,w2⟩:=jE h;have:=kg (l:=x.l) (fun y o=>(gQ (w2 y o)).2);simp only [bi,Ya,bM];omega
     ·simp
    ·split
     ·split
      ·simp
       omega
      ·simp
     ·split
      ·split
       ·simp
       ·split
        ·simp
        ·simp only [om,Ya,bM]
         omega
      ·simp only [bi,Ya,bM]
       omega
theorem Pn {w g:World} {t:TypeId} {a b c d:Value} (hb:Below (w.alloc (.cells #[a,b,c,d] t)).heap.size (w.alloc (.cells #[a,b,c,d] t)) g) :
  g.cell? ⟨w.heap.size,0,none⟩=some a/\g.cell? ⟨w.heap.size,1,none⟩=some b/\g.cell? ⟨w.heap.size,2,none⟩=some c/\g.cell? ⟨w.heap.size,3,none⟩=some d:=by
 exact zz12a
section
variable {w : World}
theorem GQ (h:ik w A l) (hi:i<l.length):∃g B c,A=some g/\w.cell? (g.add (i*4))=some (.int .u8 l[i].k)/\w.cell? ⟨(g.add (i*4)).block,(g.add (i*4)).off+1,none⟩=some (.int .i64 l[i].n)/\w.cell? ⟨(g.add (i*4)).block,(g.add (i*4)).off+2,none⟩=some (.string (bs l[i].s))/\w.cell? ⟨(g.add (i*4)).block,(g.add (i*4)).off+3,none⟩=some (.slice B l[i].l.length c)/\Txs w (.slice B l[i].l.length c) l[i].l/\l[i].l.length<=c/\l[i].k<256:=by
 obtain ⟨g,q,e,_,c0,c1,c2,c3,⟨p,B,c,rfl,j⟩,o⟩:=h.at_ i l[i] (Y1 hi);exact ⟨g,B,c,e,c0,c1,c2,c3,p,j,o⟩
structure VH (w:World) (num:Int) (l:List Fld) (A:Option Addr) (c:Nat) (f:ByteArray) (B i:Nat) (out:List UInt8) (wr:World):Prop where
 bel:Below w.heap.size w wr
 it:wr.heap[B]?=some (.stringIter f i)
 box:Blk wr w.heap.size 55 #[.int .i64 num,.slice A l.length c]
 go:gG (f.data.toList.drop i) (l.drop i) i out=encS num l
 len:out.length<=32768
theorem lH (num:Int) {c:Nat} (hl:ik w A l) (hs:∀x∈l,SzF x) (b3:l.length<=1000) :
  Calls prog 68 #[.agg #[.int .i64 num,.slice A l.length c]] w (VV num l w):=by
 have HF:=hide (fun W=>SI num (l.length:Int) W)
 cases hf:(fit num l.length).2 with
 | false =>
  have hE:=hide (show ic num (encS num l)=some ([kZ],6) from by unfold encS;rw [hf];rfl);rw [hf] at HF;have HO:=hide (fun W=>bT ⟨#[109,101,115,115,97,103,101]⟩ 6 Z2 W);generalize (fit num l.length).1=f at HF;clear hl hs;unfold aK at HO;go_enter func68,ntmps68
  go_wp2_with (first
   | (go_at_call 117;refine (HF.out _).mono ?_;rintro e w1 ⟨rfl,aq⟩)
   | (go_at_call 43;refine (HO.out _).mono ?_;rintro e w2 ⟨b,rfl,hi,av⟩)
   | fail)
  go_ret2;exact ⟨Z4,.inr ⟨b,_,6,hE.out,rfl,hi⟩⟩
 | true =>
  obtain ⟨J,ac⟩:=oM hf;obtain ⟨a9,Q⟩:=je J;have hn:=uf (n:=num) (fun e=>by rw [e] at J;simp at J)
  have aa:gG ((fit num l.length).1.data.toList.drop 0) (l.drop 0) 0 [UInt8.ofNat num.toNat]=encS num l:=by
   unfold encS;rw [Y6 hf];rfl
  rw [hf] at HF;generalize (fit num l.length).1=f at HF ac a9 Q aa
  obtain ⟨m,rfl⟩:∃m:Nat,num=m:=⟨num.toNat,Z0⟩
  have be:(m:Int).toNat=m:=Z3;rw [be] at aa;have HB:=hide (fun W=>tF m W Z0)
  have b5:IntKind.u8.wrap (m:Int)=m:=by
   exact zz7df
  have HL:=hide hl;have HS:=hide hs;have HA:=hide Q;have a4:=hide aa;have HW:=hide (fun W=>Cn (m:Int) W);have b0:f.data.toList.length=l.length:=ac;have bw:l.length<=13:=Z0;have a5:=hide ac;clear hl hs Q aa J hf hn be ac;go_enter func68,ntmps68
  go_upto_region 5 with (first
   | (go_at_call 117;refine (HF.out _).mono ?_;rintro e w1 ⟨rfl,aq⟩;have G:=Blk.below (Blk.new w 55 #[.int .i64 m,.slice A l.length c]) aq (Blk.new w _ _).lt;have c0:=G.cell 0;simp only [Jx,Q1] at c0)
   | (go_at_call 118;refine (HB.out _).mono ?_;rintro e w2 ⟨rfl,av⟩)
   | fail)
  have S:=G.below av G.lt;have R:Below w.heap.size w w2:=Z4;have an:=hide (show VH w m l A c f w2.heap.size 0 [UInt8.ofNat m] (w2.iter f 0) from ⟨by show Below w.heap.size w (w2.alloc _);exact R.alloc R.size _,World.iter_heap _ _ _,by show Blk (w2.alloc _) _ _ _;exact S.alloc _,a4.out,Z3⟩);have hB:w.heap.size<w2.heap.size:=S.lt;clear aq av G c0 HF HB S R a4;go_upto_region 6 with fail;generalize bo:w2.iter f 0=w3 at an ⊢;generalize w2.heap.size=B at an hB ⊢;clear bo
  go_loopw [6] (fun vo wr=>∃(i:Nat) (out:List UInt8),vo=.string (bs out)/\i<=l.length/\Hid (VH w m l A c f B i out wr)) (fun _ wr=>l.length - wr.iterPos B)
  case atStart=>exact ⟨0,_,rfl,Yb _,an⟩
  case round =>
   obtain ⟨i,out,rfl,hi,Z⟩:=hrel;have N:=Z.out.it;have aE:wr.iterPos B=i:=iterPos_of N
   by_cases U:i<l.length
   ·have bd:i<f.size:=by rw [a5.out];exact U
    have F:=bY bd;have aF:∀ty,(Instr.next (.pointer (some ⟨B,0,none⟩)) true ty).run prog wr=_:=fun ty=>Lib.run_next_ascii_at wr B f i ty N bd (HA.out _ F)
    obtain ⟨X,V⟩:∃X,X=wr.iterAt B f (i+1):=⟨_,rfl⟩
    have am:X.heap[B]?=some (.stringIter f (i+1)):=by rw [V];exact Lib.iterAt_heap wr B f i (i+1) N
    have C:Below w.heap.size w X:=by rw [V];exact Lib.below_iterAt Z.out.bel Z0 f (i+1)
    have I:Blk X w.heap.size 55 #[.int .i64 m,.slice A l.length c]:=by
     unfold Blk;rw [V,Lib.iterAt_other _ _ _ _ _ Z0];exact Z.out.box
    have p:=hide (xC (i:=i) (f:=f.data.toList) (l:=l) out Z0 U);have j:=hide Z.out.go;have a0:=Z.out.len;rw [<-V] at aF;obtain ⟨ad,A2,c2,rfl,q0,q1,q2,q3,ap,a8,hk⟩:=GQ (HL.out.below C) U;have ab:=HS.out _ (Yf U);have O:=Da ab;have a3:=uo l[i];have ba:f.data.toList[i]'Z0=f[i]:=rfl;rw [ba] at p;generalize hx:l[i]=x at q0 q1 q2 q3 ap a8 hk ab p O a3;have bq:f[i].toNat<128:=HA.out _ F;generalize br:f[i].toNat=ch at aF p bq
    have b4:IntKind.u8.wrap (ch:Int)=ch:=by
     exact zz7df
    have z:=hide (fun W=>Lb x (A:=A2) (c:=c2) W);have o:=hide (fun (W:World) (hb:Below X.heap.size X W)=>Ou x ab (ap.below hb) a8);have r:=hide (Y4 I (Y4 C (Y4 am hB)));have d0:=I.cell 0;have d1:=I.cell 1;simp only [Jx,Q1,Q2] at d0 d1;have bh:=hide aE;have bc:i<100:=Z0;have ao:=hide (fun W=>Tryz.strconv_Itoa_small i bc W);have P:=hide (Y4 a0 (Y4 O a3));clear hx br N V C I am aE F ba ab Z O a3 a0 ap;unfold fD at z o;have Y:=hide (fun (W:World) (b:Nat) (ps:List (List UInt8)) (k:Int) (h:aZ W (aK b) ps k)=>mO (word (m:Int)) b h);unfold aK at Y;have bx:w.heap.size<X.heap.size:=r.out.1.lt
    by_cases u:x.k=ch
    ·have ek:((x.k:Int) == (ch:Int))=true:=VB u
     cases hp:bK x with
     | false =>
      have K:=hide (show ic m (encS m l)=some ([(word (m:Int)).data.toList,Lib.decDigits i],3) from by
       rw [<-j.out,p.out,Y5 (by rw [hp];simp)]
       rfl)
      rw [hp] at z;have q:=hide (fun W=>bT ⟨(Lib.decDigits i).toArray⟩ 3 Z2 W);unfold aK at q;have C:=r.out.2.1;clear o p j hp u
      go_wp2_with (first
      | (go_at_call 119;refine (z.out _).mono ?_;rintro e w4 ⟨rfl,v⟩;have z0:=(Blk.below ((r.out.1).alloc (.cells #[.int .u8 x.k,.int .i64 x.n,.string (bs x.s),.slice A2 x.l.length c2] 60)) v (by simp;omega)).cell 0;simp only [Jx,Q1] at z0)
      | (go_at_call 48;refine (HW.out _).mono ?_;rintro e w5 ⟨rfl,rfl⟩) | (go_at_call 93;refine (ao.out _).mono ?_;rintro e w6 ⟨rfl,rfl⟩) | (go_at_call 43;refine (q.out _).mono ?_;rintro e w7 ⟨b7,rfl,D,aw⟩) | (go_at_call 47;refine (Y.out _ _ _ _ D).mono ?_;rintro e w8 ⟨b8,rfl,T,a6⟩))
      go_ret2;exact ⟨Z4,.inr ⟨b8,_,3,K.out,rfl,T⟩⟩
     | true =>
      rw [hp] at z
      by_cases he:(aH x).1=0
      ·have O:=P.out.2.1
       have a0:=P.out.1;unfold uE at o
       by_cases hL:32768<(out++(aH x).2).length
       ·have K:=hide (show ic m (encS m l)=some ([(word (m:Int)).data.toList],2) from by
         rw [<-j.out,p.out,Y6 ⟨u,hp⟩,Y6 he,Y6 hL]
         rfl)
        have q:=hide (fun W=>bT (word (m:Int)) 2 Z2 W);unfold aK at q;rw [he] at o;generalize (aH x).2=bb at o hL O;have bl:(32768:Int)<((bs (out++bb)).size:Int):=ZJ;have bm:(32768:Int)<(out.length:Int)+(bb.length:Int):=XP;have bn:(32768:Int)<((out.length+bb.length:Nat):Int):=Z0;have C:=r.out.2.1;clear p j hp u he hL P
        go_wp2_with (first
         | (go_at_call 119;refine (z.out _).mono ?_;rintro e w4 ⟨rfl,v⟩;obtain ⟨y0,y1,y2,y3⟩:=Pn v;have g:=Blk.below ((r.out.1).alloc (.cells #[.int .u8 x.k,.int .i64 x.n,.string (bs x.s),.slice A2 x.l.length c2] 60)) v (by simp;omega))
         | (go_at_call 120;refine (o.out _ Z4).mono ?_;rintro e w9 ⟨rfl,L⟩;have z0:=(g.below L g.lt).cell 0;simp only [Jx,Q1] at z0)
         | (go_at_call 48;refine (HW.out _).mono ?_;rintro e w5 ⟨rfl,rfl⟩)
         | (go_at_call 43;refine (q.out _).mono ?_;rintro e w7 ⟨b7,rfl,D,aw⟩)
         | fail)
        go_ret2;exact ⟨Z4,.inr ⟨b7,_,2,K.out,rfl,D⟩⟩
       ·have K:=hide (show gG (f.data.toList.drop (i+1)) (l.drop (i+1)) (i+1) (out++(aH x).2)=encS m l from by
         rw [<-j.out,p.out,Y6 ⟨u,hp⟩,Y6 he,Y5 hL])
        rw [he] at o;generalize (aH x).2=bb at o hL O K;have bl:¬ (32768:Int)<((bs (out++bb)).size:Int):=ZJ;have bm:¬ (32768:Int)<(out.length:Int)+(bb.length:Int):=XP;have bn:¬ (32768:Int)<((out.length+bb.length:Nat):Int):=Z0;have bg:=hide (YK hL);have C:=r.out.2.1;clear p j hp u he hL P
        go_wp2_with (first
         | (go_at_call 119;refine (z.out _).mono ?_;rintro e w4 ⟨rfl,v⟩;obtain ⟨y0,y1,y2,y3⟩:=Pn v;have g:=Blk.below ((r.out.1).alloc (.cells #[.int .u8 x.k,.int .i64 x.n,.string (bs x.s),.slice A2 x.l.length c2] 60)) v (by simp;omega))
         | (go_at_call 120;refine (o.out _ Z4).mono ?_;rintro e w9 ⟨rfl,L⟩;have z0:=(g.below L g.lt).cell 0;simp only [Jx,Q1] at z0)
         | fail)
        have a7:Below X.heap.size X w9:=Z4;have af:w9.heap[B]?=some (.stringIter f (i+1)):=(a7.block B (Array.getElem?_eq_some_iff.1 r.out.2.2.1).1).trans r.out.2.2.1;refine ⟨⟨i+1,out++bb,rfl,Z0,hide ⟨Z4,af,g.below L g.lt,K.out,bg.out⟩⟩,?_⟩;rw [iterPos_of af,bh.out];omega
      ·have K:=hide (show ic m (encS m l)=some ([(word (m:Int)).data.toList,Lib.decDigits i],(aH x).1) from by
        rw [<-j.out,p.out,Y6 ⟨u,hp⟩,Y5 he]
        rfl)
       have q:=hide (fun W=>bT ⟨(Lib.decDigits i).toArray⟩ ((aH x).1:Nat) Z6 W);unfold aK at q;have ee:((((aH x).1:Nat):Int) == 0)=false:=Z6;have bj:((((aH x).1:Nat):Int) != 0)=true:=by simp [bne,ee]
       unfold uE at o;generalize aH x=pp at K q ee bj o;have C:=r.out.2.1;clear p j hp u he P
       go_wp2_with (first
       | (go_at_call 119;refine (z.out _).mono ?_;rintro e w4 ⟨rfl,v⟩;obtain ⟨y0,y1,y2,y3⟩:=Pn v;have g:=Blk.below ((r.out.1).alloc (.cells #[.int .u8 x.k,.int .i64 x.n,.string (bs x.s),.slice A2 x.l.length c2] 60)) v (by simp;omega))
       | (go_at_call 120;refine (o.out _ Z4).mono ?_;rintro e w9 ⟨rfl,L⟩;have z0:=(g.below L g.lt).cell 0;simp only [Jx,Q1] at z0)
       | (go_at_call 48;refine (HW.out _).mono ?_;rintro e w5 ⟨rfl,rfl⟩) | (go_at_call 93;refine (ao.out _).mono ?_;rintro e w6 ⟨rfl,rfl⟩) | (go_at_call 43;refine (q.out _).mono ?_;rintro e w7 ⟨b7,rfl,D,aw⟩) | (go_at_call 47;refine (Y.out _ _ _ _ D).mono ?_;rintro e w8 ⟨b8,rfl,T,a6⟩))
       go_ret2;exact ⟨Z4,.inr ⟨b8,_,pp.1,K.out,rfl,T⟩⟩
    ·have ek:((x.k:Int) == (ch:Int))=false:=jW u
     have K:=hide (show ic m (encS m l)=some ([(word (m:Int)).data.toList,Lib.decDigits i],3) from by
      rw [<-j.out,p.out,Y5 (fun h9=>u h9.1)]
      rfl)
     have q:=hide (fun W=>bT ⟨(Lib.decDigits i).toArray⟩ 3 Z2 W);unfold aK at q;have C:=r.out.2.1;clear z o p j u
     go_wp2_with (first
      | (go_at_call 48;refine (HW.out _).mono ?_;rintro e w5 ⟨rfl,rfl⟩) | (go_at_call 93;refine (ao.out _).mono ?_;rintro e w6 ⟨rfl,rfl⟩) | (go_at_call 43;refine (q.out _).mono ?_;rintro e w7 ⟨b7,rfl,D,aw⟩) | (go_at_call 47;refine (Y.out _ _ _ _ D).mono ?_;rintro e w8 ⟨b8,rfl,T,a6⟩))
     go_ret2;exact ⟨Z4,.inr ⟨b8,_,3,K.out,rfl,T⟩⟩
   ·have bt:i=l.length:=by omega
    subst bt;have aF:∀ty,(Instr.next (.pointer (some ⟨B,0,none⟩)) true ty).run prog wr=_:=fun ty=>Lib.run_next_end_at wr B f l.length ty N (by rw [a5.out];exact U)
    have K:=hide (show encS m l=.ok out from by
     rw [<-Z.out.go,List.drop_of_length_le Z0]
     rfl)
    have bp:=Z.out.bel;clear N aE Z;go_wp2_with fail;go_ret2;exact ⟨bp,.inl ⟨out,K.out,rfl⟩⟩
end
end Go.Proofs.YtnhekaepgpbijaaGreatDoor

namespace Go.Proofs.YtnhekaepgpbijaaGreatDoor
open Go.Proofs.Tryz Go.RowKit
variable {ps:List (List UInt8)}
def atL (ps:List (List UInt8)):List UInt8:=(ps.map (·++[32])).flatten
theorem PO {i:Nat} (h:i<ps.length):atL (ps.take (i+1))=atL (ps.take i)++ps[i]++[32]:=by
 unfold atL;rw [Yh h,List.map_append,List.flatten_append,List.map_singleton,List.flatten_singleton,Yk]
theorem uL (h:∀p∈ps,p.length<=1000):(atL ps).length<=ps.length*1001:=by
 unfold atL
 induction ps with
 | nil=>simp
 | cons x l ih =>
  have g:=h x Z3;have j:=ih (fun y hy=>h y Xq);simp only [List.map_cons,List.flatten_cons,Ya,Yv,YL];omega
section
variable {w : World}
theorem NE (b:Nat) {k:Int} (ac:ps.length<=20) (F:∀p∈ps,p.length<=1000) (h:aZ w (aK b) ps k) (Q:Hand w) :
  Calls prog 59 #[aK b,.agg #[.int .i64 k,.string (bs (atL ps))]] w (fun e w'=>e=.returned (.bool true)/\Below w.heap.size w w'):=by
 have L:=hide (fun (W:World) (hb:Below w.heap.size w W)=>PL b Z0 (h.below hb) (Q.below hb));have J:=hide (fun (W:World) (hb:Below w.heap.size w W)=>Pt b (h.below hb) (Q.below hb));have V:=hide (fun i=>show (atL (ps.take i)).length<=20*1001 from Yg (uL (ps:=ps.take i) (fun y hy=>F y (List.mem_of_mem_take hy))) (Nat.mul_le_mul_right 1001 ZS));have X:=hide F;have O:=hide (show atL (ps.take ps.length)=atL ps by rw [List.take_length]);have N:(atL (ps.take 0))=[]:=rfl;have P:((bs (atL ps)).toList == (bs (atL ps)).toList)=true:=beq_self_eq_true _;unfold aK at L J ⊢;clear h Q F;go_enter func59,ntmps59;go_wp2_with fail;have q:=(Below.refl w.heap.size w).alloc (Y2 _) (.cells #[.int .i64 k,.string (bs (atL ps))] 45);have B:=Blk.new w 45 #[.int .i64 k,.string (bs (atL ps))];refine (L.out _ q).mono ?_;rintro e w1 ⟨A,c,rfl,G,C⟩;obtain ⟨A',c',hv,Y⟩:=G.open_;obtain ⟨rfl,rfl⟩:A'=A/\c'=c:=Z8;have o:=B.below C B.lt;have g:=q.trans (C.mono q.size);have u:=o.cell 0;have v:=o.cell 1;simp only [Jx,Q1,Q2] at u v;have K:=hide (fun (W:World) (hb:Below w1.heap.size w1 W)=>J.out W (g.trans (hb.mono g.size)));have I:=o.lt;have HD:=hide (Y4 u v);clear B q C hv L J o G u v;go_wp2_with fail
 go_loopw [5,7] (fun vs U wr=>wr=w1/\∃i:Nat,U=.int .i64 i/\i<=ps.length/\vs=.string (bs (atL (ps.take i)))) (fun _ U _=>ps.length - (intOf U).toNat)
 case atStart=>exact ⟨rfl,0,rfl,Yb _,by rw [N];rfl⟩
 case round =>
  obtain ⟨rfl,i,rfl,hi,rfl⟩:=hrel
  by_cases j:i<ps.length
  ·obtain ⟨ad,rfl,aa,hc⟩:=Y i j
   have ab:(i:Int)<ps.length:=Z0;have Z:(i:Int)<20:=Z0;have E:=hide (PO j);have S:=V.out i;have T:=X.out _ (Yf j);generalize ps[i]=y at hc E T;generalize atL (ps.take i)=z at E S ⊢;clear P O N;go_wp2_with fail;refine ⟨⟨trivial,i+1,Zr,Z0,?_⟩,Zh⟩;rw [E.out,show (⟨#[32]⟩:ByteArray)=bs [32] from rfl,Gg]
  ·have R:i=ps.length:=by omega
   subst R;rw [O.out];have r:Below wr.heap.size wr wr.drew:=(Below.refl _ _).drew;obtain ⟨u,v⟩:=HD.out;clear V X O N Y;go_wp2_with fail
   go_region_held3 (fun W=>W.cell? ⟨w.heap.size,0,none⟩=some (.int .i64 k)/\W.cell? ⟨w.heap.size,1,none⟩=some (.string (bs (atL ps))))
    (exact ⟨u,v⟩)
    (first
     | (go_at_call 107;refine (K.out _ r).mono ?_;rintro e w2 ⟨rfl,D⟩;replace u:=((r.trans D).cell (p:=⟨w.heap.size,0,none⟩) I).trans u;replace v:=((r.trans D).cell (p:=⟨w.heap.size,1,none⟩) I).trans v)
     | fail)
   all_goals go_wp2_with fail
   all_goals go_ret
   all_goals exact ⟨Z3,g.trans ((r.trans D).mono g.size)⟩
end
end Go.Proofs.YtnhekaepgpbijaaGreatDoor

namespace Go.Proofs.YtnhekaepgpbijaaGreatDoor
open Go.Proofs.Tryz Go.RowKit Go.ChangeShapes Go.WideShapes Go.Sort
variable {x:Fld} {l:List Fld} {w':World} {B c g k lo n:Nat} {j o v v0 v1:Value} {ls:List (List UInt8)} {row:Option Nat} {A:Option Addr} {p:Addr} {r:List UInt8} {t:TypeId}
def OC (x:Fld):Prop:=x.l.length<=20/\x.s.length<=2000/\∀y∈x.l,y.length<=2000
theorem OC.sz (h:OC x):SzF x:=⟨by have:=h.2.1;omega,by have:=h.1;omega,fun y g=>by have:=h.2.2 y g;omega⟩
theorem OC.fit (h:OC x):Kg x:=⟨by have:=h.2.1;omega,fun y g=>by have:=h.2.2 y g;omega⟩
def Vv (l:List Fld) (w:World) (e:Ending) (w':World):Prop:=∃b,e=.returned (.bool b)/\Below w.heap.size w w'/\(b=true->l.length<=20/\∀x∈l,OC x)
theorem Vv.no {w:World} (h:Below w.heap.size w w'):Vv l w (.returned (.bool false)) w':=⟨false,rfl,h,fun h=>ZM⟩
section
variable {w : World}
theorem OE {W:World} {b:Nat} {n:Int} {s:List UInt8} (h:Blk W b 60 #[.int .u8 k,.int .i64 n,.string (bs s),.slice none 0 0]) (j:k<256):ik W (some ⟨b,0,none⟩) [⟨k,n,s,[]⟩]:=by
 refine ⟨fun i x g=>?_⟩
 cases i with
 | succ i=>simp at g
 | zero =>
  simp only [Q1,Option.some.injEq] at g;subst g;refine ⟨⟨b,0,none⟩,.slice none 0 0,rfl,h.lt,?_⟩;rw [Nat.zero_mul,cu];exact ⟨h.cell 0,h.cell 1,h.cell 2,h.cell 3,uM W 0,j⟩
end
def fc (z:Fld × Value):List Value:=[.int .u8 z.1.k,.int .i64 z.1.n,.string (bs z.1.s),z.2]
def fcs (zs:List (Fld × Value)):List Value:=(zs.map fc).flatten
theorem AV {g:List (Fld × Value)} {i:Nat} (h:i<g.length) (p:k<4):(fcs g)[i*4+k]?=(fc g[i])[k]?:=by
 induction g generalizing i with
 | nil=>simp at h
 | cons z g ih =>
  have j:fcs (z :: g)=fc z++fcs g:=by simp [fcs]
  rw [j]
  cases i with
  | zero =>
   rw [Yn (by simp [fc];omega)];simp
  | succ i =>
   rw [Ys (by simp [fc];omega)];have o:(fc z).length=4:=rfl;rw [o,show (i+1)*4+k - 4=i*4+k by omega,ih Xx];rfl
theorem BL (g:List (Fld × Value)) (z:Fld × Value):fcs (g++[z])=fcs g++fc z:=by simp [fcs]
def Inn (lo:Nat) (v:Value) (w:World) (lv:Value) (ls:List (List UInt8)):Prop :=
 ∃A c,lv=.slice A ls.length c/\ls.length<=c/\Sl lo w 1 A ls.length ((ls.map bs).map Value.string)/\∀ad,A=some ad->0<ls.length->v.ownBlock≠some ad.block
theorem Inn.step {v':Value} {w:World} {G:Value} (h:Inn lo v w G ls) (F:w.grownBy w' row) (O:∀i,row=some i->i<lo\/v.ownBlock=some i)
  (p:v'.ownBlock=v.ownBlock\/∃n,v'.ownBlock=some n/\w.heap.size<=n):Inn lo v' w' G ls:=by
 obtain ⟨A,c,e,L,z,D⟩:=h;refine ⟨A,c,e,L,⟨z.1,fun hp=>?_⟩,fun g he hp=>?_⟩
 ·obtain ⟨g,o,J,r,K⟩:=z.2 hp
  have B:some g.block≠row:=fun q=>by
   rcases O _ q.symm with C | C
   ·omega
   ·exact D g o hp C
  exact ⟨g,o,J,Yi r F.size,fun j u P=>(World.cell?_of_block (F.block _ (by rw [ax];exact r) (by rw [ax];exact B))).trans (K j u P)⟩
 ·rcases p with p | ⟨n,p,N⟩
  ·rw [p]
   exact D g he hp
  ·rw [p]
   intro q;have Q:=Y9 q;obtain ⟨I,o,_,r,_⟩:=z.2 hp;rw [he] at o;cases o
   omega
theorem Inn.txc {w:World} {g:Value} (h:Inn lo v w g ls):Txc w g ls:=by
 obtain ⟨A,c,e,o,j,_⟩:=h;exact bN.txc (lo:=lo) ⟨A,c,e,o,j⟩
theorem Dm {a w:World} (h:a.grownBy w (some B)) (f:ByteArray) (i:Nat):a.grownBy (w.iterAt B f i) (some B) :=
 ⟨h.os,h.tape,h.output,by rw [Lib.iterAt_size];exact h.size,fun j o g=>(Lib.iterAt_other w B j f i (fun e=>g (by rw [e]))).trans (h.block j o g)⟩
structure xY (lo:Nat) (w:World) (A:Option Addr) (n c:Nat) (zs:List (Fld × Value)):Prop where
 len:zs.length=n
 own:w.ownsRow lo 60 4 (.slice A n c) n (fcs zs)
 inn:∀z∈zs,Inn lo (.slice A n c) w z.2 z.1.l/\z.1.k<256
theorem xY.step {w:World} {q:List (Fld × Value)} (h:xY lo w A n c q) (g:w.grownBy w' row) (o:∀i,row=some i->i<lo):xY lo w' A n c q:=by
 refine ⟨h.len,h.own.kept g ?_,fun z p=>⟨(h.inn z p).1.step g (fun i e=>.inl (o i e)) (.inl rfl),(h.inn z p).2⟩⟩
 cases e:(Value.slice A n c).ownBlock with
 | none=>exact .inl rfl
 | some j =>
  refine .inr (fun r=>?_);have u:=o j r.symm;have v:=(h.own.lt j e).1;omega
def eT (lo:Nat) (w:World) (A:Option Addr) (l:List Fld):Prop :=
 ∀w2:World,w.heap.size<=w2.heap.size->(∀p:Addr,lo<=p.block->p.block<w.heap.size->w2.cell? p=w.cell? p)->ik w2 A l
theorem eT.flds {w:World} (h:eT lo w A l):ik w A l:=h w (Y2 _) (fun _ _ _=>rfl)
theorem eT.below {w:World} (h:eT lo w A l) (g:Below w.heap.size w w'):eT lo w' A l :=
 fun w2 hs q=>h w2 (Yg g.size hs) (fun p o j=>(q p o (Yi j g.size)).trans (g.cell j))
theorem eT.setCell {w:World} (h:eT lo w A l) (hp:p.block<lo) (u:Value):eT lo (w.setCell p u) A l :=
 fun w2 hs o=>h w2 (by simpa [World.setCell] using hs) (fun q g j=>(o q g (by simpa [World.setCell] using j)).trans (World.cell?_setCell_other w p q u (fun e=>by subst e;omega)))
theorem eT.mono {w:World} (h:eT lo w A l) (r:g<=lo):eT g w A l :=
 fun w2 hs q=>h w2 hs (fun p j o=>q p (Yg r j) o)
theorem xY.flds {w:World} {o:List (Fld × Value)} (h:xY lo w A n c o):eT lo w A (o.map (·.1)):=by
 intro w2 u r;refine ⟨fun i x G=>?_⟩;rw [Yt,Option.map_eq_some_iff] at G;obtain ⟨z,N,rfl⟩:=G;obtain ⟨hi,rfl⟩:=Yx.1 N;have L:0<n:=by have:=h.len;omega
 obtain ⟨g,cap,F,_,D⟩:=h.own.form L;obtain rfl:A=some ⟨g,0,none⟩:=by injection F
 have K:=(h.own.lt g rfl).1;have B:=h.own.cells (g:=g) rfl;have key:∀p:Addr,p.block=g->∀v,w.cell? p=some v->w2.cell? p=some v:=fun p hp v F=>(r p Z0 Z0).trans F
 have O:=key _ (ax _ _) _ (B (i*4+0) (.int .u8 o[i].1.k) Xh);have P:=key _ (ax _ _) _ (B (i*4+1) (.int .i64 o[i].1.n) Xh);have Q:=key _ (ax _ _) _ (B (i*4+2) (.string (bs o[i].1.s)) Xh);have R:=key _ (ax _ _) _ (B (i*4+3) o[i].2 Xh);have q:=h.inn o[i] (Yf hi);obtain ⟨A2,c2,I,C,J,_⟩:=q.1;exact ⟨⟨g,0,none⟩,o[i].2,rfl,Yi D u,O,nU (j:=0) P,nU (j:=1) Q,nU (j:=2) R,bN.txc (lo:=lo) ⟨A2,c2,I,C,J.keep u r⟩,q.2⟩
theorem xY.add {w p:World} {A6:Option Addr} {c6:Nat} {C:List (Fld × Value)} {r:Value} (h:xY lo w A n c C) (g:∃b,w.grownBy p b/\∀i,b=some i->i<lo)
  (P:bN w.heap.size p r x.l) (R:x.k<256) (v:lo<=w.heap.size) (G:p.grownBy w' row) (I:∀i,row=some i->(Value.slice A n c).ownBlock=some i)
  (J:(Value.slice A6 (n+1) c6).ownBlock=(Value.slice A n c).ownBlock\/∃m,(Value.slice A6 (n+1) c6).ownBlock=some m/\p.heap.size<=m) (o:w'.ownsRow lo 60 4 (.slice A6 (n+1) c6) (n+1) (fcs (C++[(x,r)]))):xY lo w' A6 (n+1) c6 (C++[(x,r)]):=by
 obtain ⟨b,g,Q⟩:=g;refine ⟨by rw [Ya,h.len];rfl,o,fun z j=>?_⟩;rcases Yy.1 j with j | j
 ·have h9:=(h.step g Q).inn z j
  exact ⟨h9.1.step G (fun i e=>.inr (I i e)) J,h9.2⟩
 ·simp only [Ym] at j
  subst j;refine ⟨?_,R⟩;obtain ⟨B,d,e,hd,u⟩:=P
  have O:Inn lo (.slice A n c) p r x.l:=by
   refine ⟨B,d,e,hd,⟨u.1,fun hp=>?_⟩,fun D he hp=>?_⟩
   ·obtain ⟨D,q,F,N⟩:=u.2 hp
    exact ⟨D,q,Yg v F,N⟩
   ·obtain ⟨K,q,F,_⟩:=u.2 hp
    rw [he] at q;cases q
    intro L;have:=(h.own.lt _ L).2;omega
  exact O.step G (fun i e=>.inr (I i e)) J
def eG:List Fld->RdR->RdR
 | [],R=>R
 | x :: xs,R=>(eG xs R).cons x
theorem rC (g:List Fld) (x:Fld) (R:RdR):eG (g++[x]) R=eG g (R.cons x):=by
 induction g with
 | nil=>rfl
 | cons y ys ih =>
  show (eG (ys++[x]) R).cons y=(eG ys (R.cons x)).cons y;rw [ih]
theorem xk (g l:List Fld):eG g (.ok l)=.ok (g++l):=by
 induction g with
 | nil=>rfl
 | cons y ys ih =>
  show (eG ys (.ok l)).cons y=_;rw [ih];rfl
theorem uZ (g:List Fld) (e i:Nat):eG g (.no e i)=.no e i:=by
 induction g with
 | nil=>rfl
 | cons y ys ih =>
  show (eG ys (.no e i)).cons y=_;rw [ih];rfl
theorem rF (g:List Fld):eG g .tail=.tail:=by
 induction g with
 | nil=>rfl
 | cons y ys ih =>
  show (eG ys .tail).cons y=_;rw [ih];rfl
def Ud:List UInt8:=[101,110,100]
def NT (R:RdR) (w:World) (e:Ending) (w':World):Prop :=
 Below w.heap.size w w'/\((∃l A c,R=.ok l/\e=.returned (.tuple #[.slice A l.length c,.nilIface])/\eT w.heap.size w' A l) \/
  (∃x i b A n c,R=.no x i/\x≠0/\e=.returned (.tuple #[.slice A n c,aK b])/\aZ w' (aK b) [Lib.decDigits i] (x:Nat)) \/
  (∃b A n c,R=.tail/\e=.returned (.tuple #[.slice A n c,aK b])/\aZ w' (aK b) [Ud] 3))
theorem MM:(prog.info? 60).map (fun i=>(i.zero,i.size,i.bytes))=some (some (.agg #[.int .u8 0,.int .i64 0,.string ⟨#[]⟩,.slice none 0 0]),4,56):=Z1
theorem ML {g:List UInt8} (h:dx k r=.ok x g):x.k=k:=(Ak h).1
theorem bL (w:World) (o:Obj) (t:TypeId) (cs:Array Value):Blk ((w.alloc o).alloc (.cells cs t)) (w.heap.size+1) t cs:=by
 have:=Blk.new (w.alloc o) t cs;simpa using this
structure Tq (w:World) (s f:ByteArray) (rb B:Nat) (R:RdR) (i:Nat) (A:Option Addr) (c:Nat) (wr:World):Prop where
 bel:Below w.heap.size w wr
 it:wr.heap[B]?=some (.stringIter f i)
 st:∃zs p',xY (B+1) wr A i c zs/\Rdr wr rb s p' 0/\p'<=s.size/\R=eG (zs.map (·.1)) (aQ (f.data.toList.drop i) (s.data.toList.drop p') i)
theorem wS (r:List UInt8) (i:Nat):aQ [] r i=if pE r=0 then .ok [] else .tail:=by
 unfold pE
 cases r with
 | nil=>rfl
 | cons c r=>simp [aQ]
theorem wP (r:List UInt8):pE r=0\/pE r=3:=by
 unfold pE
 split <;> simp
section
variable {w : World}
theorem LV (pl f:ByteArray) (cc:pl.size<=1000000) (cb:1<=pl.size) (b8:f.size<=13) (Q:∀c∈f.data.toList,c.toNat<128) (hM:kH w) :
  Calls prog 46 #[.string pl,.string f] w (NT (aQ f.data.toList (pl.data.toList.drop 1) 0) w):=by
 obtain ⟨s,ap⟩:∃s,s=pl.extract 1 pl.size:=⟨_,rfl⟩
 have be:s.size<=1000000:=by rw [ap,ByteArray.size_extract];omega
 have bg:s.data.toList=pl.data.toList.drop 1:=by
  rw [ap,Lib.extract_data];rw [Yp];rw [Yu];exact Y2 _
 rw [<-bg];generalize a4:aQ f.data.toList s.data.toList 0=R;have bl:=hide a4;clear a4;have HN:=hide (fun W=>PP s W);have HA:=hide Q;have HM:=hide hM;have aE:=hide be;have b9:(1:Int)<=pl.size:=Z0;obtain ⟨iI,bx,bo,bp,bq⟩:=eP MM;clear bg Q hM be;go_enter func46,ntmps46
 go_upto_region 3 with (first
  | (rw [<-ap];refine (HN.out _).mono ?_;rintro e w1 ⟨rfl,ao,Y⟩)
  | fail)
 have hB:w.heap.size<w1.heap.size:=Blk.lt ao;have U:=hide (show Tq w s f w.heap.size w1.heap.size R 0 none 0 (w1.iter f 0) from ⟨by show Below w.heap.size w (w1.alloc _);exact Y.alloc Y.size _,World.iter_heap _ _ _,[],0,⟨rfl,World.ownsRow_nil _ _ _ _,Z3⟩,by show Rdr (w1.alloc _) _ _ _ _;exact Blk.alloc ao _,Yb _,bl.out.symm⟩);clear HN ao Y;go_upto_region 4 with fail;generalize br:w1.iter f 0=w3 at U ⊢;generalize w1.heap.size=B at U hB ⊢;clear br
 go_loopw [7] (fun vo wr=>∃(i:Nat) (A:Option Addr) (c:Nat),vo=.slice A i c/\i<=f.size/\Hid (Tq w s f w.heap.size B R i A c wr)) (fun _ wr=>f.size - wr.iterPos B)
 case atStart=>exact ⟨0,none,0,rfl,Yb _,U⟩
 case round =>
  obtain ⟨i,A,c,rfl,hi,HI⟩:=hrel;have q:=HI.out.it;have ad:wr.iterPos B=i:=iterPos_of q;have G:=HI.out.bel;obtain ⟨zs,p',hF,hr,bb,hR⟩:=HI.out.st
  by_cases J:i<f.size
  ·have p:=bY J
   have an:∀ty,(Instr.next (.pointer (some ⟨B,0,none⟩)) true ty).run prog wr=_:=fun ty=>Lib.run_next_ascii_at wr B f i ty q J (HA.out _ p)
   obtain ⟨wn,z⟩:∃wn,wn=wr.iterAt B f (i+1):=⟨_,rfl⟩
   have r:wn.heap[B]?=some (.stringIter f (i+1)):=by rw [z];exact Lib.iterAt_heap wr B f i (i+1) q
   have aa:Below w.heap.size w wn:=by rw [z];exact Lib.below_iterAt G Z0 f (i+1)
   have ab:wr.grownBy wn (some B):=by rw [z];exact Dm (az wr _) f (i+1)
   have a3:=hF.step ab (fun j e=>YS);have bd:Rdr wn w.heap.size s p' 0:=Blk.grown hr ab (fun e=>by have:=Y9 e;omega);rw [<-z] at an;have aF:B<wn.heap.size:=(Array.getElem?_eq_some_iff.1 r).1;have am:i<f.data.toList.length:=J;have g:=hR;rw [List.drop_eq_getElem_cons am] at g;have a6:f.data.toList[i]'am=f[i]:=rfl;rw [a6] at g;have N:=hide (fun x r' (C:dx f[i].toNat (s.data.toList.drop p')=.ok x r')=>show R=eG (zs.map (·.1)++[x]) (aQ (f.data.toList.drop (i+1)) r' (i+1)) from by rw [g,jg C,rC]);have K:=hide (fun x (C:dx f[i].toNat (s.data.toList.drop p')=.no x)=>show R=.no x i from by rw [g,oO C,uZ]);have HG:=hide (Qi f[i].toNat (HM.out.below aa) bd aE.out bb);have bw:f[i].toNat<128:=HA.out _ p;generalize f[i].toNat=ch at an N K HG bw
   have cd:IntKind.u8.wrap (ch:Int)=ch:=by
    exact zz7df
   have av:=hide ad;have P:=hide (Y4 a3 (Y4 aa r));have a8:i<100:=Z0;have bh:=hide (fun W=>Tryz.strconv_Itoa_small i a8 W);clear a6 g hR hF hr ab a3 bd p q ad z G HI r aa am;go_wp2_with fail;refine HG.out.mono ?_;rintro e w9 (⟨x,lv,p2,C,rfl,hN,bc,b4,h⟩ | ⟨ke,v0,v1,v2,v3,v4,v5,C,a9,rfl,h⟩)
   ·have b3:=ML C
    have V:=hide (N.out _ _ C);have Z:Below w.heap.size w w9:=P.out.2.1.grown h P.out.2.1.size (fun k e=>by cases e;exact Y2 _);have a0:=P.out.1.step h (fun j e=>YS);have T:w9.heap[B]?=some (.stringIter f (i+1)):=(h.block B aF (fun e=>by have:=Y9 e;omega)).trans P.out.2.2;have cf:B+1<=w9.heap.size:=Yg aF h.size;have bj:=hide hN;have bn:=hide (show Rdr w9 w.heap.size s p2 0 from bc);have aq:=hide h;have aw:=hide T;have af:x.k<256:=Z0;obtain ⟨lA,lc,rfl,ca,_⟩:=hN;clear C N K HG bc T h b3;unfold fD
    go_wp2_with (first
     | (at_builtin;refine aB _ rfl (.tmp 34) (.tmp 36) _ rfl (B+1) 60 iI (.agg #[.int .u8 0,.int .i64 0,.string ⟨#[]⟩,.slice none 0 0]) 4 56 underlying53 bx bo bp bq rfl Z2 (.slice A i c) i _ rfl ((a0.own.alloc _).alloc _) _ (some ⟨_,0,none⟩) 1 1 [.int .u8 x.k,.int .i64 x.n,.string (bs x.s),.slice lA x.l.length lc] rfl (dJ (bL _ _ _ _) rfl) Zd Ze Z0 Zm ?_;intro v6 O u a7 ba;obtain ⟨A6,c6,rfl⟩:=ed u)
     | fail)
    have I:w9.grownBy O (Value.slice A i c).ownBlock:=aj (dK (dK (az w9 _) (.cells #[.int .u8 x.k,.int .i64 x.n,.string (bs x.s),.slice lA x.l.length lc] 60)) (.cells #[.int .u8 x.k,.int .i64 x.n,.string (bs x.s),.slice lA x.l.length lc] 60)) a7;have v:∀k,(Value.slice A i c).ownBlock=some k->B+1<=k:=fun k e=>(a0.own.lt k e).1
    have S:O.heap[B]?=some (.stringIter f (i+1)):=(I.block B Z0 (fun e=>by have:=v _ e.symm;omega)).trans aw.out;have b5:Rdr O w.heap.size s p2 0:=Blk.grown bn.out I (fun e=>by have:=v _ e.symm;omega);have F:Below w.heap.size w O:=Z.grown I Z.size (fun k e=>by have:=v _ e;omega)
    have X:=P.out.1.add ⟨_,aq.out,fun j e=>YS⟩ bj.out af Z0 I (fun k e=>e) (by
     rcases ba with h6 | h6
     ·exact .inl h6
     ·exact .inr ⟨_,h6,Zm⟩) (by rw [BL];exact u)
    refine ⟨⟨i+1,A6,c6,by first | rfl | (simp;done),Z0,hide ⟨F,S,_,p2,X,b5,b4,by rw [List.map_append];exact V.out⟩⟩,?_⟩;rw [iterPos_of S,av.out];omega
   ·have V:=hide (K.out _ C)
    have Z:Below w.heap.size w w9:=P.out.2.1.grown h P.out.2.1.size (fun k e=>by cases e;exact Y2 _);have hx1:((ke:Int) == 0)=false:=Z6;have ce:((ke:Int) != 0)=true:=YU;have o:=hide (fun W=>bT ⟨(Lib.decDigits i).toArray⟩ (ke:Nat) hx1 W);unfold aK at o;have bm:=hide a9;clear C N K HG h a9 P av
    go_wp2_with (first
     | (go_at_call 93;refine (bh.out _).mono ?_;rintro e O ⟨rfl,rfl⟩)
     | (go_at_call 43;refine (o.out _).mono ?_;rintro e w7 ⟨b7,rfl,ac,bt⟩)
     | fail)
    go_ret2;exact ⟨Z4,.inr (.inl ⟨ke,i,b7,_,_,_,V.out,bm.out,rfl,ac⟩)⟩
  ·have b0:i=f.size:=by omega
   subst b0;have an:∀ty,(Instr.next (.pointer (some ⟨B,0,none⟩)) true ty).run prog wr=_:=fun ty=>Lib.run_next_end_at wr B f f.size ty q J
   have g:R=eG (zs.map (·.1)) (if pE (s.data.toList.drop p')=0 then .ok [] else .tail):=by
    rw [hR,List.drop_of_length_le (show f.data.toList.length<=f.size from Y2 _),wS]
   have HE:=hide (LG hr aE.out bb);have HF:=hide hF;have D:=hide G;have a5:=wP (s.data.toList.drop p');have b6:=hF.len;generalize pE (s.data.toList.drop p')=ev at g HE a5;clear q ad HI hR hF hr G;rcases a5 with rfl | rfl
   ·have V:=hide (show R=.ok (zs.map (·.1)) from by rw [g,Y6 rfl,xk,List.append_nil])
    have o:=hide (fun W=>IQ ⟨#[101,110,100]⟩ W);clear g;go_wp2_with fail;refine HE.out.mono ?_;rintro e O ⟨rfl,L⟩;have F:Below w.heap.size w O:=D.out.grown L D.out.size (fun k e=>by cases e;exact Y2 _);have X:=HF.out.step L (fun j e=>YS);go_wp2_with (refine (o.out _).mono ?_;rintro e w7 ⟨rfl,rfl⟩);go_ret2;exact ⟨F,.inl ⟨_,A,c,V.out,by rw [Yd,b6];rfl,X.flds.mono Z0⟩⟩
   ·have V:=hide (show R=.tail from by rw [g,Y5 Z2,rF])
    have o:=hide (fun W=>bT ⟨#[101,110,100]⟩ 3 Z2 W);unfold aK at o;clear g;go_wp2_with fail;refine HE.out.mono ?_;rintro e O ⟨rfl,L⟩;have F:Below w.heap.size w O:=D.out.grown L D.out.size (fun k e=>by cases e;exact Y2 _);go_wp2_with (refine (o.out _).mono ?_;rintro e w7 ⟨b7,rfl,ac,bt⟩);go_ret2;exact ⟨Z4,.inr (.inr ⟨b7,A,_,c,V.out,rfl,ac⟩)⟩
end
def jw:RdR->Option (List (List UInt8) × Nat)
 | .ok _=>none
 | .no e i=>some ([Lib.decDigits i],e)
 | .tail=>some ([Ud],3)
def fu:Te->Option (List (List UInt8) × Nat)
 | .ok _ _=>none
 | .all e=>some ([kZ],e)
 | .bad num R=>(jw R).map fun x=>((word (num:Nat)).data.toList :: x.1,x.2)
def Wj (D:Te) (w:World) (e:Ending) (w':World):Prop :=
 Below w.heap.size w w'/\((∃num l A c,D=.ok num l/\e=.returned (.tuple #[.agg #[.int .i64 (num:Nat),.slice A l.length c],.nilIface])/\eT w.heap.size w' A l) \/
  (∃b ps,∃k:Nat,fu D=some (ps,k)/\e=.returned (.tuple #[.agg #[.int .i64 0,.slice none 0 0],aK b])/\aZ w' (aK b) ps k))
theorem Md {R:RdR} {w:World} {e:Ending} (h:NT R w e w'):Below w.heap.size w w'/\((∃l A c,R=.ok l/\e=.returned (.tuple #[.slice A l.length c,.nilIface])/\eT w.heap.size w' A l) \/
  (∃b A n c ps,∃k:Nat,jw R=some (ps,k)/\(∀l,R≠.ok l)/\ps.length<=1/\e=.returned (.tuple #[.slice A n c,aK b])/\aZ w' (aK b) ps k)):=by
 obtain ⟨j,h | ⟨x,i,b,A,n,c,g,o,he,hi⟩ | ⟨b,A,n,c,g,he,hi⟩⟩:=h
 ·exact ⟨j,.inl h⟩
 ·exact ⟨j,.inr ⟨b,A,n,c,_,x,by rw [g];rfl,(fun l e=>by rw [g] at e;cases e),Z3,he,hi⟩⟩
 ·exact ⟨j,.inr ⟨b,A,n,c,_,3,by rw [g];rfl,(fun l e=>by rw [g] at e;cases e),Z3,he,hi⟩⟩
theorem oP {c:UInt8} (h:32768<(c :: r).length):dC (c :: r)=.all 2:=by
 simp only [dC];rw [Y6 h]
theorem oF {c:UInt8} (h:¬ 32768<(c :: r).length) (j:forms c.toNat=[]):dC (c :: r)=.all 6:=by
 simp only [dC];rw [Y5 h]
 split
 ·rfl
 ·rename_i g
  rw [j] at g;cases g
theorem q8 {c:UInt8} {f:ByteArray} {fs:List ByteArray} (h:¬ 32768<(c :: r).length) (j:forms c.toNat=f :: fs) (o:dL (forms c.toNat) r=none):dC (c :: r)=.bad c.toNat (aQ f.data.toList r 0):=by
 simp only [dC];rw [Y5 h]
 split
 ·rename_i g
  rw [j] at g;cases g
 ·rename_i f2 p g
  rw [j] at g;cases g
  rw [j] at o;rw [o]
theorem Ow {w:World} {r:Nat} (h:Blk w r t #[j,o]) (v0 v1:Value):Blk ((w.setCell ⟨r,0,none⟩ v0).setCell ⟨r,1,none⟩ v1) r t #[v0,v1]:=by
 have g:=(h.set_ 0 v0).set_ 1 v1;simpa using g
structure U2 (w:World) (p:List UInt8) (fs:List ByteArray) (j:Nat) (vf:Value) (wr:World):Prop where
 bel:Below w.heap.size w wr
 blk:Blk wr w.heap.size 55 #[.int .i64 0,.slice none 0 0]
 rest:dL fs (p.drop 1)=dL (fs.drop j) (p.drop 1)
 first:0<j->∃b ps,∃k:Nat,vf=aK b/\aZ wr (aK b) ps k/\ps.length<=1/\∀f r,fs=f :: r->jw (aQ f.data.toList (p.drop 1) 0)=some (ps,k)
section
variable {w : World}
theorem lI {w j:World} (h:w.heap.size<=g) (o:Below w.heap.size w j):Below w.heap.size w ((j.setCell ⟨g,0,none⟩ v0).setCell ⟨g,1,none⟩ v1):=(o.setCell (p:=⟨g,0,none⟩) h v0).setCell (p:=⟨g,1,none⟩) h v1
theorem uU {j:World} {cs:Array Value} (o:Blk j g 55 cs) {ps:List (List UInt8)} {k:Int} (h:aZ j v ps k):aZ ((j.setCell ⟨g,0,none⟩ v0).setCell ⟨g,1,none⟩ v1) v ps k :=
 aZ.own o Z2 (ah (ah (az j (some g)) (p:=⟨g,0,none⟩) (.inl rfl) v0) (p:=⟨g,1,none⟩) (.inl rfl) v1) h
theorem um (pl:ByteArray) (bx:pl.size<=1000000) (hM:kH w):Calls prog 11 #[.string pl] w (Wj (dC pl.data.toList) w):=by
 have I:=Blk.new w 55 #[.int .i64 0,.slice none 0 0];have J:Below w.heap.size w (w.alloc (.cells #[.int .i64 0,.slice none 0 0] 55)):=(Below.refl _ _).alloc (Y2 _) _
 by_cases L:pl=⟨#[]⟩
 ·subst L
  have HE:=hide (show fu (dC (⟨#[]⟩:ByteArray).data.toList)=some ([kZ],4) from rfl);have G:=hide (fun W=>bT ⟨#[109,101,115,115,97,103,101]⟩ 4 Z2 W);unfold aK at G;have A:=hide (Y4 I J);clear I J hM;go_enter func11,ntmps11
  go_wp2_with (first
   | (go_at_call 43;refine (G.out _).mono ?_;rintro e w7 ⟨b7,rfl,P,C⟩;have g:=A.out.1.below C A.out.1.lt;have x0:=g.cell 0;have x1:=g.cell 1;have t0:=g.frozen 0;have t1:=g.frozen 1;simp at x0 x1)
   | fail)
  have hF:=Ow g (.int .i64 0) (.slice none 0 0);have q0:=hF.cell 0;have q1:=hF.cell 1;simp at q0 q1;exact bodyPost_ret (v:=.tuple #[.agg #[.int .i64 0,.slice none 0 0],aK b7]) ZX rfl ⟨lI (Y2 _) (A.out.2.trans (C.mono A.out.2.size)),.inr ⟨b7,_,4,HE.out,rfl,uU g P⟩⟩
 ·have hz:0<pl.size:=Nat.pos_of_ne_zero (fun e=>L (by
   have:pl.data.size=0:=e;have h2:pl.data=#[]:=Array.eq_empty_of_size_eq_zero this;cases pl
   simp_all))
  have aq:pl.data.toList.length=pl.size:=rfl;obtain ⟨c,r,aE⟩:=List.exists_cons_of_ne_nil (show pl.data.toList≠[] from fun e=>by rw [e] at aq;simp at aq;omega)
  have O:pl[0]=c:=by
   have h2:pl.data.toList[0]'(by rw [aq];exact hz)=c:=by simp only [aE,List.getElem_cons_zero]
   exact h2
  have bw:=eX L;have bl:=iJ L
  have a5:wrap64 ((pl[0].toNat:Nat):Int)=(pl[0].toNat:Nat):=by
   have:=pl[0].toNat_lt;unfold wrap64;omega
  rw [aE] at aq ⊢;have b3:(0:Int)<pl.size:=Z0
  by_cases Q:32768<pl.size
  ·have T:(32768:Int)<pl.size:=by omega
   have HK:=hide (fun W=>tT 0 W);have HE:=hide (show fu (dC (c :: r))=some ([kZ],2) from by rw [oP Z0];rfl);have G:=hide (fun W=>bT ⟨#[109,101,115,115,97,103,101]⟩ 2 Z2 W);unfold aK at G;have A:=hide (Y4 I J);clear I J hM HK O Q;go_enter func11,ntmps11
   go_wp2_with (first
    | (go_at_call 44;refine (HK.out _).mono ?_;rintro e w6 ⟨rfl,a7⟩)
    | (go_at_call 43;refine (G.out _).mono ?_;rintro e w7 ⟨b7,rfl,P,C⟩;have K:Below (w.alloc (.cells #[.int .i64 0,.slice none 0 0] 55)).heap.size (w.alloc (.cells #[.int .i64 0,.slice none 0 0] 55)) w7:=Z4;have g:=A.out.1.below K A.out.1.lt;have x0:=g.cell 0;have x1:=g.cell 1;have t0:=g.frozen 0;have t1:=g.frozen 1;simp at x0 x1)
    | fail)
   have hF:=Ow g (.int .i64 0) (.slice none 0 0);have q0:=hF.cell 0;have q1:=hF.cell 1;simp at q0 q1;exact bodyPost_ret (v:=.tuple #[.agg #[.int .i64 0,.slice none 0 0],aK b7]) ZX rfl ⟨lI (Y2 _) (A.out.2.trans (K.mono A.out.2.size)),.inr ⟨b7,_,2,HE.out,rfl,uU g P⟩⟩
  ·have T:¬ (32768:Int)<pl.size:=by omega
   have aF:¬ 32768<(c :: r).length:=Z0
   cases hfs:forms c.toNat with
   | nil =>
    have HK:=hide (fun W=>tT (pl[0].toNat:Nat) W);have an:known ((pl[0].toNat:Nat):Int)=false:=by rw [O];unfold known;rw [hfs];rfl
    rw [an] at HK;have HE:=hide (show fu (dC (c :: r))=some ([kZ],6) from by rw [oF aF hfs];rfl);have G:=hide (fun W=>bT ⟨#[109,101,115,115,97,103,101]⟩ 6 Z2 W);unfold aK at G;have A:=hide (Y4 I J);clear I J hM O Q an hfs aF;go_enter func11,ntmps11
    go_wp2_with (first
     | (go_at_call 44;refine (HK.out _).mono ?_;rintro e w6 ⟨rfl,a7⟩)
     | (go_at_call 43;refine (G.out _).mono ?_;rintro e w7 ⟨b7,rfl,P,C⟩;have K:Below (w.alloc (.cells #[.int .i64 0,.slice none 0 0] 55)).heap.size (w.alloc (.cells #[.int .i64 0,.slice none 0 0] 55)) w7:=Z4;have g:=A.out.1.below K A.out.1.lt;have x0:=g.cell 0;have x1:=g.cell 1;have t0:=g.frozen 0;have t1:=g.frozen 1;simp at x0 x1)
     | fail)
    have hF:=Ow g (.int .i64 0) (.slice none 0 0);have q0:=hF.cell 0;have q1:=hF.cell 1;simp at q0 q1;exact bodyPost_ret (v:=.tuple #[.agg #[.int .i64 0,.slice none 0 0],aK b7]) ZX rfl ⟨lI (Y2 _) (A.out.2.trans (K.mono A.out.2.size)),.inr ⟨b7,_,6,HE.out,rfl,uU g P⟩⟩
   | cons f0 fs0 =>
    have HK:=hide (fun W=>tT (pl[0].toNat:Nat) W);have an:known ((pl[0].toNat:Nat):Int)=true:=by rw [O];unfold known;rw [hfs];rfl
    rw [an] at HK;have Y:=hide (fun W=>sK (pl[0].toNat:Nat) W);have a6:=hide (fun W=>Cn (pl[0].toNat:Nat) W);rw [O] at Y a6;have a4:∀f∈f0 :: fs0,f.size<=13/\∀x∈f.data.toList,x.toNat<128:=fun f hf=>je (n:=(c.toNat:Nat)) (by rw [hfs];exact hf)
    have aa:=hide a4;have Z:=hide (fun l (h:dL (f0 :: fs0) r=some l)=>qN (c:=c) (r:=r) (l:=l) Z0 XU);have F:=hide (fun (h:dL (f0 :: fs0) r=none)=>q8 (c:=c) (r:=r) (f:=f0) (fs:=fs0) aF hfs XU);rw [hfs] at Y;generalize hD:dC (c :: r)=D at Z F ⊢;clear hD an a4;have U:=hide (fun (W:World) (f:ByteArray) (hf:f∈f0 :: fs0) (hW:kH W)=>(LV (w:=W) pl f bx hz (aa.out f hf).1 (aa.out f hf).2 hW).mono fun _ _ h=>Md h);rw [aE] at U;rw [show List.drop 1 (c :: r)=r from rfl] at U;have HM:=hide hM;have bd:=hide O;have A:=hide (Y4 I J);have bq:(f0 :: fs0).length<=3:=by rw [<-hfs];exact lK _
    obtain ⟨fs,am⟩:∃fs,fs=f0 :: fs0:=⟨_,rfl⟩
    have a0:=hide am;rw [<-am] at bq Y U Z F;clear am hfs O I J hM Q aF aq aE L aa;go_enter func11,ntmps11
    go_wp2_with (first
     | (go_at_call 44;refine (HK.out _).mono ?_;rintro e w6 ⟨rfl,a7⟩)
     | (rw [bd.out];go_at_call 45;refine (Y.out _).mono ?_;rintro e w7 ⟨v7,rfl,⟨fA,fc,rfl,bg⟩,C⟩)
     | fail)
    have ac:Below (w.alloc (.cells #[.int .i64 0,.slice none 0 0] 55)).heap.size (w.alloc (.cells #[.int .i64 0,.slice none 0 0] 55)) w7:=Z4;have bc:=hide (show U2 w (c :: r) fs 0 .nilIface w7/\Sl w6.heap.size w7 1 fA fs.length (fs.map Value.string) from ⟨⟨A.out.2.trans (ac.mono A.out.2.size),A.out.1.below ac A.out.1.lt,rfl,fun h=>absurd h Z0⟩,bg⟩);have b8:IntKind.i64.wrap ((c.toNat:Nat):Int)=(c.toNat:Nat):=wrap_small _ Z0 (by have:=c.toNat_lt;omega);have b0:wrap64 ((c.toNat:Nat):Int)=(c.toNat:Nat):=by rw [<-bd.out];exact a5
    clear bg C a7 ac Y HK bw bl b3 T a5;generalize w6.heap.size=lo at bc;rw [b0]
    go_loopw [5,35] (fun vf vi wr=>∃j:Nat,vi=.int .i64 j/\j<=fs.length/\(j=0->vf=.nilIface)/\Hid (U2 w (c :: r) fs j vf wr/\Sl lo wr 1 fA fs.length (fs.map Value.string))) (fun _ vi _=>fs.length - (intOf vi).toNat)
    case atStart=>exact ⟨0,rfl,Yb _,fun _=>rfl,bc⟩
    case round =>
     obtain ⟨j,rfl,hj,a8,HI⟩:=hrel;have af:=HI.out.1.bel;have B:=HI.out.1.blk;have o:=HI.out.1.rest;have u:=HI.out.1.first;have aw:=HI.out.2
     by_cases a9:j<fs.length
     ·obtain ⟨ad,rfl,b4,hc⟩:=aw.str a9
      have bh:=Yf a9;rw [List.drop_eq_getElem_cons a9] at o;have a3:j=0->∀f q,fs=f :: q->fs[j]=f:=fun e f q h=>by subst e;simp [h]
      have HR:=hide (U.out wr fs[j] bh (HM.out.below af));have z:=hide (fun (h:∀l,aQ fs[j].data.toList r 0≠.ok l)=>o.trans (iR h));have N:=hide (fun l (h:aQ fs[j].data.toList r 0=.ok l)=>Z.out l (o.trans (fV h)));have S:w.heap.size<wr.heap.size:=B.lt;have HS:=hide (Y4 B (Y4 af aw));have ao:=hide (fun x (hx:jw (aQ fs[j].data.toList r 0)=x) (e:j=0) f q (h:fs=f :: q)=>show jw (aQ f.data.toList r 0)=x from by rw [<-a3 e f q h];exact hx);have av:=hide u;have b6:j<=3:=Z0;generalize fs[j]=f at hc HR z N ao;generalize aQ f.data.toList r 0=R at HR z N ao;clear B af aw o u a3 HI bh U Z F A a6;go_wp2_with fail;refine HR.out.mono ?_;rintro e w2 ⟨X,(⟨l,A2,c2,ab,rfl,be⟩ | ⟨b2,A2,n2,c2,ps,k,ab,bj,ba,rfl,hi2⟩)⟩
      ·have ap:=HS.out.1.below X HS.out.1.lt
       have x0:=ap.cell 0;have x1:=ap.cell 1;have t0:=ap.frozen 0;have t1:=ap.frozen 1;simp at x0 x1;have HY:=hide (N.out _ ab);have HF:=hide be;clear ab N z ao be HR;go_wp2_with fail;have hF:=Ow ap (.int .i64 (c.toNat:Nat)) (.slice A2 l.length c2);have q0:=hF.cell 0;have q1:=hF.cell 1;simp at q0 q1;exact bodyPost_ret (v:=.tuple #[.agg #[.int .i64 (c.toNat:Nat),.slice A2 l.length c2],.nilIface]) (by simp [results,results11,go_sem,q0,q1]) rfl ⟨lI (Y2 _) (HS.out.2.1.trans (X.mono (YC S))),.inl ⟨c.toNat,l,A2,c2,HY.out,rfl,((HF.out.setCell (p:=⟨w.heap.size,0,none⟩) S _).setCell (p:=⟨w.heap.size,1,none⟩) S _).mono (YC S)⟩⟩
      ·have V:=hide (Y4 (HS.out.1.below X HS.out.1.lt) (Y4 (HS.out.2.1.trans (X.mono (YC S))) (HS.out.2.2.below X)))
       have HN:=hide (z.out bj);have bn:=hide (ao.out _ ab);have bo:=hide hi2;have bp:=hide ba;unfold aK;clear ab bj N z ao hi2 HR ba;rcases Nat.eq_zero_or_pos j with rfl | bt
       ·obtain rfl:=a8 rfl
        go_wp2_with fail;exact ⟨⟨1,Zr,Z0,fun h=>absurd h Z0,hide ⟨⟨V.out.2.1,V.out.1,HN.out,fun _=>⟨b2,ps,k,rfl,bo.out,bp.out,fun f q h=>bn.out (by first | rfl | trivial) f q h⟩⟩,V.out.2.2⟩⟩,Zh⟩
       ·have b5:((j:Int) == 0)=false:=by rw [Y3];omega
        have Hj:=hide (av.out bt);clear a8;go_wp2_with fail;refine ⟨⟨j+1,Zr,Z0,fun h=>absurd h Z0,hide ⟨⟨V.out.2.1,V.out.1,HN.out,fun _=>?_⟩,V.out.2.2⟩⟩,Zh⟩;obtain ⟨b,ps,k,e1,h1,h2,h3⟩:=Hj.out;exact ⟨b,ps,k,e1,h1.below X,h2,h3⟩
     ·have br:j=fs.length:=by omega
      subst br;have bm:0<fs.length:=by rw [a0.out];simp
      obtain ⟨b,ps,k,rfl,hi,ba,hq⟩:=u bm
      have HE:=hide (show fu D=some ((word (c.toNat:Nat)).data.toList :: ps,k) from by
       rw [F.out (o.trans (by rw [List.drop_length];rfl))];show Option.map _ (jw (aQ f0.data.toList (List.drop 1 (c :: r)) 0))=_;rw [hq _ _ a0.out]
       rfl)
      have bb:=hide (fun (W:World) (h:aZ W (aK b) ps k)=>mO (word (c.toNat:Nat)) b h);have Hi:=hide hi;have HS:=hide (Y4 B af);have S:w.heap.size<wr.heap.size:=B.lt;unfold aK at bb ⊢;clear B af o u hq hi aw HI U Z F A a8
      go_wp2_with (first
       | (go_at_call 48;refine (a6.out _).mono ?_;rintro e w5 ⟨rfl,rfl⟩)
       | (go_at_call 47;refine (bb.out _ Hi.out).mono ?_;rintro e w7 ⟨b7,rfl,P,C⟩;have g:=HS.out.1.below C HS.out.1.lt;have x0:=g.cell 0;have x1:=g.cell 1;have t0:=g.frozen 0;have t1:=g.frozen 1;simp at x0 x1)
       | fail)
      have hF:=Ow g (.int .i64 0) (.slice none 0 0);have q0:=hF.cell 0;have q1:=hF.cell 1;simp at q0 q1;exact bodyPost_ret (v:=.tuple #[.agg #[.int .i64 0,.slice none 0 0],aK b7]) ZX rfl ⟨lI (Y2 _) (HS.out.2.trans (C.mono (YC S))),.inr ⟨b7,_,k,HE.out,rfl,uU g P⟩⟩
end
section
variable {w : World}
theorem zz148 {p_:Prop} (h_:p_:=by
 go_enter func108,ntmps108;go_wp2_with fail
 exact bodyPost_ret (v:=.agg #[.int .u8 0,.int .i64 0,.string ⟨#[]⟩,.slice none 0 0]) (by simp [results,results108,go_sem]) rfl ⟨rfl,by exact ae⟩):p_:=h_
theorem J3 (num i:Int) (w:World) (h:i<0\/(n:Int)<=i):Calls prog 108 #[.agg #[.int .i64 num,.slice A n c],.int .i64 i] w (fun e w'=>e=.returned (.agg #[.int .u8 0,.int .i64 0,.string ⟨#[]⟩,.slice none 0 0])/\Below w.heap.size w w'):=by
 by_cases g:i<0
 ·clear h
  exact zz148
 ·have j:(n:Int)<=i:=by omega
  clear h;exact zz148
theorem JN (w:World) (o:Obj) (t:TypeId) (cs:Array Value):Blk ((w.alloc o).alloc (.cells cs t)) (w.heap.size+1) t cs:=by
 have:=Blk.new (w.alloc o) t cs;simpa using this
theorem Vt {w:World} {r:Nat} {p q:Value} (h:Blk w r t #[j,o,p,q]) (v0 v1 v2 v3:Value) :
  Blk ((((w.setCell ⟨r,0,none⟩ v0).setCell ⟨r,1,none⟩ v1).setCell ⟨r,2,none⟩ v2).setCell ⟨r,3,none⟩ v3) r t #[v0,v1,v2,v3]:=by
 have g:=(((h.set_ 0 v0).set_ 1 v1).set_ 2 v2).set_ 3 v3;simpa using g
theorem UX {w0 w:World} (j:Below B w0 w) (h:B<=g) (v0 v1 v2 v3:Value):Below B w0 ((((w.setCell ⟨g,0,none⟩ v0).setCell ⟨g,1,none⟩ v1).setCell ⟨g,2,none⟩ v2).setCell ⟨g,3,none⟩ v3) :=
 (((j.setCell (p:=⟨g,0,none⟩) h v0).setCell (p:=⟨g,1,none⟩) h v1).setCell (p:=⟨g,2,none⟩) h v2).setCell (p:=⟨g,3,none⟩) h v3
def At4 (w:World) (p:Addr) (x:Fld) (lv:Value):Prop:=w.cell? p=some (.int .u8 x.k)/\w.cell? ⟨p.block,p.off+1,none⟩=some (.int .i64 x.n)/\w.cell? ⟨p.block,p.off+2,none⟩=some (.string (bs x.s))/\w.cell? ⟨p.block,p.off+3,none⟩=some lv
theorem At4.below {w:World} (h:At4 w p x o) (j:Below w.heap.size w w'):At4 w' p x o:=by
 have g:=BN h.1;exact ⟨(j.cell g).trans h.1,(j.cell (p:=⟨p.block,p.off+1,none⟩) g).trans h.2.1,(j.cell (p:=⟨p.block,p.off+2,none⟩) g).trans h.2.2.1,(j.cell (p:=⟨p.block,p.off+3,none⟩) g).trans h.2.2.2⟩
theorem Mj (num:Int) (j:Nat) {r:Addr} (h:j<n) (L:n<=20) (x:Fld) {A2:Option Addr} {c2:Nat} (z:At4 w (r.add (j*4)) x (.slice A2 x.l.length c2)) :
  Calls prog 108 #[.agg #[.int .i64 num,.slice (some r) n c],.int .i64 j] w (fun ev w'=>ev=.returned (fD x (.slice A2 x.l.length c2))/\Below w.heap.size w w'):=by
 obtain ⟨p,hW0⟩:∃p,p=(w.alloc (.cells #[.int .i64 num,.slice (some r) n c] 55)).alloc (.cells #[.int .u8 0,.int .i64 0,.string ⟨#[]⟩,.slice none 0 0] 60):=⟨_,rfl⟩
 have o:Below w.heap.size w p:=Zg;have q:Blk p w.heap.size 55 #[.int .i64 num,.slice (some r) n c]:=Zc;have g:Blk p (w.heap.size+1) 60 #[.int .u8 0,.int .i64 0,.string ⟨#[]⟩,.slice none 0 0]:=by rw [hW0];exact JN w _ _ _
 obtain ⟨q0,q1,q2,N⟩:=z.below o;have m1:=q.cell 1;have G:=g.cell 0;have I:=g.cell 1;have J:=g.cell 2;have K:=g.cell 3;have O:=g.frozen 0;have P:=g.frozen 1;have Q:=g.frozen 2;have R:=g.frozen 3;simp at m1 G I J K;have D:¬ (j:Int)<0:=Z0;have F:(j:Int)<n:=Z0;have hF:=hide (Vt g (.int .u8 x.k) (.int .i64 x.n) (.string (bs x.s)) (.slice A2 x.l.length c2));have u:=hide (UX o (YB w.heap.size) (.int .u8 x.k) (.int .i64 x.n) (.string (bs x.s)) (.slice A2 x.l.length c2));clear o q g z;unfold fD;go_enter func108,ntmps108;go_upto_region 1 with fail;rw [<-hW0];clear hW0;go_wp2_with fail;have hF:=hF.out;generalize ((((p.setCell ⟨w.heap.size+1,0,none⟩ (.int .u8 x.k)).setCell ⟨w.heap.size+1,1,none⟩ (.int .i64 x.n)).setCell ⟨w.heap.size+1,2,none⟩ (.string (bs x.s))).setCell ⟨w.heap.size+1,3,none⟩ (.slice A2 x.l.length c2))=S at hF u ⊢;have p0:=hF.cell 0;have A:=hF.cell 1;have B:=hF.cell 2;have C:=hF.cell 3;simp at p0 A B C;exact bodyPost_ret (v:=.agg #[.int .u8 x.k,.int .i64 x.n,.string (bs x.s),.slice A2 x.l.length c2]) (by simp [results,results108,go_sem,p0,A,B,C]) rfl ⟨rfl,u.out⟩
end
end Go.Proofs.YtnhekaepgpbijaaGreatDoor
