/- Several of my texts in one: RRead, RefG, ReX, PrfG. -/
import Derived.Test.YtnhekaepgpbijaaGreatDoorKAli
import Derived.Test.YtnhekaepgpbijaaGreatDoorKRGetXG
import Derived.Test.YtnhekaepgpbijaaGreatDoorKDecWG
import Derived.Test.YtnhekaepgpbijaaGreatDoorKAsG
import Derived.Test.YtnhekaepgpbijaaGreatDoorKCfDG
import Derived.Test.YtnhekaepgpbijaaGreatDoorKKxPGG
import Derived.Deep.RegionWith
import Derived.Deep.Onto
set_option linter.unusedVariables false
set_option linter.unusedSimpArgs false
set_option maxHeartbeats 40000000
set_option maxRecDepth 100000
namespace Go.Proofs.YtnhekaepgpbijaaGreatDoor
open Go.Proofs.Tryz Go.RowKit Go.ChangeShapes Go.WideShapes Go.Sort
def LX:ByteArray:=⟨#[48,49,50,51,52,53,54,55,56,57]⟩
theorem QK:∀i<10,(LX.extract i (i+1)++(⟨#[32]⟩:ByteArray)).data.toList=Lib.decDigits i++[32]:=Z7
theorem SC:∀i<100,10<=i->(LX.extract (i / 10) (i / 10+1)++LX.extract (i % 10) (i % 10+1)++(⟨#[32]⟩:ByteArray)).data.toList=Lib.decDigits i++[32]:=Z7
theorem zH:∀i<100,(atL [Lib.decDigits i]).length<=10:=Z7
theorem wL (i:Nat) (hi:i<100) (w:World):Calls prog 74 #[.int .i64 i] w (Says (atL [Lib.decDigits i]) w):=by
 have g:atL [Lib.decDigits i]=Lib.decDigits i++[32]:=by simp [atL]
 rw [g];have v:LX.size=10:=rfl
 by_cases o:i<10
 ·have j:(i:Int)<10:=by omega
  have h:=hide (kG (QK i o));have hw:IntKind.i64.wrap ((i:Int)+1)=((i+1:Nat):Int):=X0;clear g;go_enter func74,ntmps74;rw [show (⟨#[48,49,50,51,52,53,54,55,56,57]⟩:ByteArray)=LX from rfl];go_wp2_with fail;go_ret;exact ⟨by rw [<-h.out];rfl,Below.refl _ _⟩
 ·have j:¬ (i:Int)<10:=by omega
  have h:=hide (kG (SC i hi Z0));have z:(i:Int).tdiv 10=((i / 10:Nat):Int):=by rw [Int.tdiv_eq_ediv_of_nonneg Z0];omega
  have A:(i:Int).tmod 10=((i % 10:Nat):Int):=by rw [Int.tmod_eq_emod_of_nonneg Z0];omega
  obtain ⟨a,p⟩:∃a,a=i / 10:=⟨_,rfl⟩
  obtain ⟨b,r⟩:∃b,b=i % 10:=⟨_,rfl⟩
  rw [<-p] at z h;rw [<-r] at A h;have B:IntKind.i64.wrap ((a:Int)+1)=((a+1:Nat):Int):=X0;have C:IntKind.i64.wrap ((b:Int)+1)=((b+1:Nat):Int):=X0;have q:a<10:=Z0;have u:b<10:=Z0;clear g hi p r;go_enter func74,ntmps74;rw [show (⟨#[48,49,50,51,52,53,54,55,56,57]⟩:ByteArray)=LX from rfl];go_wp2_with fail;go_region;go_wp2_with fail;go_ret;exact ⟨by rw [<-h.out];rfl,(Below.refl _ _).drew⟩
def TW (R:RdR) (w:World) (e:Ending) (w':World):Prop :=
 Below w.heap.size w w'/\((∃l A c,R=.ok l/\e=.returned (.tuple #[.slice A l.length c,.agg #[.int .i64 0,.string ⟨#[]⟩]])/\eT w.heap.size w' A l) \/
  (∃ps,∃k:Nat,jw R=some (ps,k)/\(∀l,R≠.ok l)/\k≠0/\(atL ps).length<=10/\e=.returned (.tuple #[.slice none 0 0,.agg #[.int .i64 k,.string (bs (atL ps))]])))
theorem dI {w:World} {r:Nat} {t:TypeId} {j o:Value} (h:Blk w r t #[j,o]) (v0 v1:Value):Blk ((w.setCell ⟨r,0,none⟩ v0).setCell ⟨r,1,none⟩ v1) r t #[v0,v1]:=by
 have g:=(h.set_ 0 v0).set_ 1 v1;simpa using g
structure Oi (w:World) (f:ByteArray) (R:RdR) (i:Nat) (A:Option Addr) (c:Nat) (wr:World):Prop where
 bel:Below w.heap.size w wr
 eb:Blk wr w.heap.size 45 #[.int .i64 0,.string ⟨#[]⟩]
 st:∃zs r',xY (w.heap.size+2) wr A i c zs/\Rd3 wr (w.heap.size+1) r' 0/\r'.length<=1000000/\R=eG (zs.map (·.1)) (aQ (f.data.toList.drop i) r' i)
theorem Ls {k:Nat} {r g:List UInt8} {x:Fld} (h:dx k r=.ok x g):g.length<=r.length:=by
 obtain ⟨_,_,b,_,e⟩:=Ak h;rw [e,Ya];omega
section
variable {w : World}
theorem Fa (pl f:ByteArray) (b4:pl.size<=1000000) (b3:1<=pl.size) (br:f.size<=13) :
  Calls prog 111 #[.string pl,.string f] w (TW (aQ f.data.toList (pl.data.toList.drop 1) 0) w):=by
 obtain ⟨r,I⟩:∃r,r=pl.data.toList.drop 1:=⟨_,rfl⟩
 have bo:pl.extract 1 pl.size=bs r:=by
  apply kG;rw [Lib.extract_data,I];rw [Yp];rw [Yu];exact Y2 _
 have B:r.length<=1000000:=by
  rw [I,Yu];have:pl.data.toList.length=pl.size:=rfl;omega
 rw [<-I];generalize ap:aQ f.data.toList r 0=R;have bc:=hide ap;have bw:(1:Int)<=pl.size:=Z0;obtain ⟨iI,T,L,N,O⟩:=eP MM;have a9:=hide (Y4 T (Y4 L (Y4 N O)))
 obtain ⟨W0,hW0⟩:∃W0,W0=(w.alloc (.cells #[.int .i64 0,.string ⟨#[]⟩] 45)).alloc (.cells #[.string (bs r),.int .i64 0] 269):=⟨_,rfl⟩
 have aq:Below w.heap.size w W0:=Zg;have am:Blk W0 w.heap.size 45 #[.int .i64 0,.string ⟨#[]⟩]:=Zc;have ao:Rd3 W0 (w.heap.size+1) r 0:=Xr;have a8:=hide (show Oi w f R 0 none 0 W0 from ⟨aq,am,[],r,⟨rfl,World.ownsRow_nil _ _ _ _,Z3⟩,ao,B,bc.out.symm⟩);clear ap I B aq am ao T L N O;go_enter func111,ntmps111;go_upto_region 2 with fail;rw [<-hW0];clear hW0 bo;go_wp2_with fail
 go_loopw [7,8] (fun vo vi wr=>∃(i:Nat) (A:Option Addr) (c:Nat),vo=.slice A i c/\vi=.int .i64 i/\i<=f.size/\Hid (Oi w f R i A c wr)) (fun _ vi _=>f.size - (intOf vi).toNat)
 case atStart=>exact ⟨0,none,0,rfl,rfl,Yb _,a8⟩
 case round =>
  obtain ⟨i,A,c,rfl,rfl,hi,HI⟩:=hrel;have Q:=HI.out.bel;have o:=HI.out.eb;obtain ⟨zs,r',hF,I,B,hR⟩:=HI.out.st
  by_cases bl:i<f.size
  ·have a4:(i:Int)<f.size:=by omega
   have a3:i<f.data.toList.length:=bl;have g:=hR;rw [List.drop_eq_getElem_cons a3] at g;have aE:f.data.toList[i]'a3=f[i]:=rfl;rw [aE] at g;have Z:=hide (fun x q (D:dx f[i].toNat r'=.ok x q)=>show R=eG (zs.map (·.1)++[x]) (aQ (f.data.toList.drop (i+1)) q (i+1)) from by rw [g,jg D,rC]);have Y:=hide (fun x (D:dx f[i].toNat r'=.no x)=>show R=.no x i from by rw [g,oO D,uZ]);have HG:=hide (MO f[i].toNat I B);have bx:f[i].toNat<256:=f[i].toNat_lt;have bq:w.heap.size+2<=wr.heap.size:=Nat.succ_le_of_lt (Blk.lt I);have K:=hide (Y4 hF (Y4 Q o));have U:i<100:=Z0;have bb:=hide (fun W=>wL i U W);have a7:=B;clear aE g hR hF I o Q HI B;go_wp2_with fail;refine HG.out.mono ?_;rintro e w9 (⟨x,lv,q,D,rfl,hN,a6,h⟩ | ⟨ke,v0,v1,v2,v3,v4,v5,D,a0,rfl,h⟩)
   ·have bj:=ML D
    have J:=hide (Z.out _ _ D);have bm:q.length<=1000000:=Yg (Ls D) a7;have z:Below w.heap.size w w9:=K.out.2.1.grown h K.out.2.1.size (fun k e=>YS);have u:=K.out.2.2.grown h (fun e=>by have:=Y9 e;omega);have an:=K.out.1.step h (fun j e=>YS);have b6:w.heap.size+2<=w9.heap.size:=Yg bq h.size;have ba:=hide hN;have be:=hide (show Rd3 w9 (w.heap.size+1) q 0 from a6);have af:=hide h;have ad:=hide u;have X:x.k<256:=Z0;obtain ⟨lA,lc,rfl,b0,_⟩:=hN;clear D Z Y HG a6 h bj u;obtain ⟨T,L,N,O⟩:=a9.out;unfold fD
    go_wp2_with (first
     | (at_builtin;refine aB _ rfl (.tmp 35) (.tmp 37) _ rfl (w.heap.size+2) 60 iI (.agg #[.int .u8 0,.int .i64 0,.string ⟨#[]⟩,.slice none 0 0]) 4 56 underlying53 T L N O rfl Z2 (.slice A i c) i _ rfl ((an.own.alloc _).alloc _) _ (some ⟨_,0,none⟩) 1 1 [.int .u8 x.k,.int .i64 x.n,.string (bs x.s),.slice lA x.l.length lc] rfl (dJ (bL _ _ _ _) rfl) Zd Ze Z0 Zm ?_;intro v6 V F aF a5;obtain ⟨A6,c6,rfl⟩:=ed F)
     | fail)
    have S:w9.grownBy V (Value.slice A i c).ownBlock:=aj (dK (dK (az w9 _) (.cells #[.int .u8 x.k,.int .i64 x.n,.string (bs x.s),.slice lA x.l.length lc] 60)) (.cells #[.int .u8 x.k,.int .i64 x.n,.string (bs x.s),.slice lA x.l.length lc] 60)) aF;have G:∀k,(Value.slice A i c).ownBlock=some k->w.heap.size+2<=k:=fun k e=>(an.own.lt k e).1
    have bn:Rd3 V (w.heap.size+1) q 0:=Blk.grown be.out S (fun e=>by have:=G _ e.symm;omega);have av:=ad.out.grown S (fun e=>by have:=G _ e.symm;omega);have P:Below w.heap.size w V:=z.grown S z.size (fun k e=>by have:=G _ e;omega)
    have bg:=K.out.1.add ⟨_,af.out,fun j e=>YS⟩ ba.out X Z0 S (fun k e=>e) (by
     rcases a5 with h6 | h6
     ·exact .inl h6
     ·exact .inr ⟨_,h6,Zm⟩) (by rw [BL];exact F)
    refine ⟨⟨i+1,A6,c6,by first | rfl | (simp;done),by first | rfl | go_num,Z0,hide ⟨P,av,_,q,bg,bn,bm,by rw [List.map_append];exact J.out⟩⟩,?_⟩;simp [intOf];omega
   ·have J:=hide (Y.out _ D)
    have z:Below w.heap.size w w9:=K.out.2.1.grown h K.out.2.1.size (fun k e=>YS);have u:=K.out.2.2.grown h (fun e=>by have:=Y9 e;omega);have hx1:((ke:Int) == 0)=false:=Z6;have b5:((ke:Int) != 0)=true:=YU;have bd:=hide a0;have bt:=hide z;have aa:=hide (u.alloc (.cells #[.int .u8 v0,.int .i64 v1,.string v2,.slice v3 v4 v5] 60));have HA:=hide (show Below w.heap.size w (w9.alloc (.cells #[.int .u8 v0,.int .i64 v1,.string v2,.slice v3 v4 v5] 60)) from z.alloc z.size _);clear D Z Y HG h a0 K z u
    go_wp2_with (first
     | (go_at_call 74;refine (bb.out _).mono ?_;rintro e V ⟨rfl,P⟩;have C:=aa.out.below P aa.out.lt;have x0:=C.cell 0;have x1:=C.cell 1;have t0:=C.frozen 0;have t1:=C.frozen 1;simp at x0 x1)
     | fail)
    have hF:=dI C (.int .i64 (ke:Nat)) (.string (bs (atL [Lib.decDigits i])));have q0:=hF.cell 0;have q1:=hF.cell 1;simp at q0 q1;exact bodyPost_ret (v:=.tuple #[.slice none 0 0,.agg #[.int .i64 (ke:Nat),.string (bs (atL [Lib.decDigits i]))]]) Xa rfl ⟨lI (Y2 _) (HA.out.trans (P.mono HA.out.size)),.inr ⟨_,ke,by rw [J.out];rfl,(fun l e=>by rw [J.out] at e;cases e),bd.out,zH i U,rfl⟩⟩
  ·have bh:i=f.size:=by omega
   subst bh;have a4:¬ (f.size:Int)<f.size:=Z0
   have g:R=eG (zs.map (·.1)) (if pE r'=0 then .ok [] else .tail):=by
    rw [hR,List.drop_of_length_le (show f.data.toList.length<=f.size from Y2 _),wS]
   have HE:=hide (Lr I);have HF:=hide hF;have ab:=hide Q;have ac:=hide o;have aw:=wP r';have bp:=hF.len;have x0:=o.cell 0;have x1:=o.cell 1;have t0:=o.frozen 0;have t1:=o.frozen 1;simp at x0 x1;generalize pE r'=ev at g HE aw;clear HI hR hF I Q o B;rcases aw with rfl | rfl
   ·have J:=hide (show R=.ok (zs.map (·.1)) from by rw [g,Y6 rfl,xk,List.append_nil])
    clear g;go_wp2_with (go_at_call 193;refine HE.out.mono ?_;rintro e V ⟨rfl,e6⟩;(obtain rfl:wr=V:=e6.symm));have hF:=dI ac.out (.int .i64 0) (.string ⟨#[]⟩);have q0:=hF.cell 0;have q1:=hF.cell 1;simp at q0 q1;refine bodyPost_ret (v:=.tuple #[.slice A f.size c,.agg #[.int .i64 0,.string ⟨#[]⟩]]) Xa rfl ⟨lI (Y2 _) ab.out,.inl ⟨_,A,c,J.out,by rw [Yd,bp],?_⟩⟩;exact ((HF.out.flds.setCell (p:=⟨w.heap.size,0,none⟩) Zl _).setCell (p:=⟨w.heap.size,1,none⟩) Zl _).mono Z0
   ·have J:=hide (show R=.tail from by rw [g,Y5 Z2,rF])
    clear g;go_wp2_with (go_at_call 193;refine HE.out.mono ?_;rintro e V ⟨rfl,e6⟩;(obtain rfl:wr=V:=e6.symm));have hF:=dI ac.out (.int .i64 3) (.string ⟨#[101,110,100,32]⟩);have q0:=hF.cell 0;have q1:=hF.cell 1;simp at q0 q1;exact bodyPost_ret (v:=.tuple #[.slice none 0 0,.agg #[.int .i64 3,.string ⟨#[101,110,100,32]⟩]]) Xa rfl ⟨lI (Y2 _) ab.out,.inr ⟨[Ud],3,by rw [J.out];rfl,(fun l e=>by rw [J.out] at e;cases e),Z2,Z2,rfl⟩⟩
end
end Go.Proofs.YtnhekaepgpbijaaGreatDoor
namespace Go.Proofs.YtnhekaepgpbijaaGreatDoor
open Go.Proofs.Tryz Go.RowKit
def table:List (Int × ByteArray × List ByteArray):=[
 (1,⟨#[100,105,115,99,111,110,110,101,99,116]⟩,[⟨#[117,115,115]⟩]),
 (2,⟨#[105,103,110,111,114,101]⟩,[⟨#[115]⟩]),
 (3,⟨#[117,110,105,109,112,108,101,109,101,110,116,101,100]⟩,[⟨#[117]⟩]),
 (4,⟨#[100,101,98,117,103]⟩,[⟨#[98,115,115]⟩]),
 (5,⟨#[115,101,114,118,105,99,101,45,114,101,113,117,101,115,116]⟩,[⟨#[115]⟩]),
 (6,⟨#[115,101,114,118,105,99,101,45,97,99,99,101,112,116]⟩,[⟨#[115]⟩]),
 (7,⟨#[101,120,116,45,105,110,102,111]⟩,[⟨#[101]⟩]),
 (20,⟨#[107,101,120,105,110,105,116]⟩,[⟨#[99,110,110,110,110,110,110,110,110,110,110,98,117]⟩]),
 (21,⟨#[110,101,119,107,101,121,115]⟩,[⟨#[]⟩]),
 (30,⟨#[101,99,100,104,45,105,110,105,116]⟩,[⟨#[116]⟩]),
 (31,⟨#[114,101,112,108,121,45,111,114,45,103,114,111,117,112]⟩,[⟨#[116,116,116]⟩,⟨#[109,109]⟩]),
 (32,⟨#[103,101,120,45,105,110,105,116]⟩,[⟨#[116]⟩]),
 (33,⟨#[103,101,120,45,114,101,112,108,121]⟩,[⟨#[116,116,116]⟩]),
 (34,⟨#[103,101,120,45,114,101,113,117,101,115,116]⟩,[⟨#[117,117,117]⟩]),
 (50,⟨#[117,115,101,114,97,117,116,104,45,114,101,113,117,101,115,116]⟩,[⟨#[115,115,115]⟩,⟨#[115,115,115,98,115,116]⟩,⟨#[115,115,115,98,115,116,116]⟩]),
 (51,⟨#[117,115,101,114,97,117,116,104,45,102,97,105,108,117,114,101]⟩,[⟨#[110,98]⟩]),
 (52,⟨#[117,115,101,114,97,117,116,104,45,115,117,99,99,101,115,115]⟩,[⟨#[]⟩]),
 (53,⟨#[117,115,101,114,97,117,116,104,45,98,97,110,110,101,114]⟩,[⟨#[115,115]⟩]),
 (60,⟨#[117,115,101,114,97,117,116,104,45,112,107,45,111,107]⟩,[⟨#[115,116]⟩])]

def NP (lo:Nat) (w:World) (v:Value) (l:List (Int × ByteArray × List ByteArray)):Prop :=
 ∃A c,v=.slice A l.length c/\∀i (h:i<l.length),∃ad fv,A=some ad/\lo<=ad.block/\ad.block<w.heap.size/\w.cell? (ad.add (i*3))=some (.int .i64 l[i].1)/\w.cell? (ad.add (i*3+1))=some (.string l[i].2.1)/\w.cell? (ad.add (i*3+2))=some fv/\Strs lo w fv l[i].2.2
def jI:Nat->List (Int × ByteArray × List ByteArray)->List Value
 | _,[]=>[]
 | B,r :: l=>.int .i64 r.1 :: .string r.2.1 :: .slice (some ⟨B,0,none⟩) r.2.2.length r.2.2.length :: jI (B+1) l
theorem CV (B:Nat) (l:List (Int × ByteArray × List ByteArray)) (i:Nat) (h:i<l.length):(jI B l)[i*3]?=some (.int .i64 l[i].1)/\(jI B l)[i*3+1]?=some (.string l[i].2.1) /\
  (jI B l)[i*3+2]?=some (.slice (some ⟨B+i,0,none⟩) l[i].2.2.length l[i].2.2.length):=by
 induction l generalizing B i with
 | nil=>simp at h
 | cons r l ih =>
  cases i with
  | zero=>simp [jI]
  | succ i =>
   have:=ih (B+1) i Xx;simp only [Nat.add_mul,Nat.one_mul,jI,List.getElem_cons_succ];refine ⟨this.1,this.2.1,?_⟩;rw [show B+(i+1)=B+1+i from Z0];exact this.2.2
def Ao (l:List (Int × ByteArray × List ByteArray)):List Obj:=l.map fun r=>Obj.cells (r.2.2.map Value.string).toArray 9
def jf (B:Nat):List Obj:=Ao table++[Obj.cells (jI B table).toArray 151]
theorem Jy (w:World):NP w.heap.size (p8 w (jf w.heap.size)) (.slice (some ⟨w.heap.size+19,0,none⟩) 19 19) table/\Below w.heap.size w (p8 w (jf w.heap.size)):=by
 refine ⟨⟨_,_,rfl,fun i h=>?_⟩,qZ _ _⟩;have o:i<19:=h;have g:Blk (p8 w (jf w.heap.size)) (w.heap.size+19) 151 (jI w.heap.size table).toArray:=yw w (jf w.heap.size) (k:=19) rfl;obtain ⟨j,p,q⟩:=CV w.heap.size table i h
 have hs:Blk (p8 w (jf w.heap.size)) (w.heap.size+i) 9 (table[i].2.2.map Value.string).toArray:=by
  refine yw w (jf w.heap.size) (k:=i) ?_;rw [jf,Yn (by simpa [Ao] using h),Ao,Yt,Y1 h];rfl
 refine ⟨_,_,rfl,Nat.le_add_right _ _,g.lt,?_,?_,?_,hs.strs (Nat.le_add_right _ _) table[i].2.2.length⟩
 ·rw [cu,g.cell,Jx];exact j
 ·rw [cu,g.cell,Jx];exact p
 ·rw [cu,g.cell,Jx];exact q
theorem JD (w:World):Calls prog 121 #[] w fun e w'=>∃v,e=.returned v/\NP w.heap.size w' v table/\Below w.heap.size w w':=by
 go_enter func121,ntmps121;go_wp2;go_ret;exact ⟨_,rfl,Jy w⟩
def rowOf (n:Int):Int × ByteArray × List ByteArray:=(table.find? (fun r=>r.1 == n)).getD (0,⟨#[]⟩,[])
theorem Et (n:Int) (w:World):Calls prog 72 #[.int .i64 n] w fun e w'=>∃I,e=.returned (.agg #[.int .i64 (rowOf n).1,.string (rowOf n).2.1,I])/\Strs w.heap.size w' I (rowOf n).2.2/\Below w.heap.size w w':=by
 have T:table.length=19:=rfl;have B:=hide T;clear T;go_enter func72,ntmps72;go_wp2_with (go_at_call 121;refine (JD _).mono ?_;rintro e w1 ⟨v,rfl,⟨A,c,rfl,U⟩,J⟩;rw [B.out]);obtain ⟨D,aa⟩:=zy J;have K:=J.size;simp only [World.size_alloc] at K U;have C:Below w.heap.size w w1:=((Below.refl _ _).alloc (Y2 _) _).trans (J.mono Z3)
 go_loop [4] (fun i=>∃k:Nat,k<=19/\i=.int .i64 k/\∀j (h:j<table.length),j<k->table[j].1≠n) (fun i=>19 - (intOf i).toNat)
 case atStart=>exact ⟨0,Yb _,rfl,Z3⟩
 case round =>
  obtain ⟨k,hk,rfl,g⟩:=hrel
  by_cases u:k<19
  ·obtain ⟨ad,I,rfl,_,ab,V,R,S,hs⟩:=U k (by rw [B.out];exact u)
   generalize p:table[k]'(by rw [B.out];exact u)=r at V R S hs;have Y:=nU (j:=0) R;have Z:=nU (j:=1) S
   by_cases N:r.1=n
   ·have q:rowOf n=r:=by
     have:table.find? (fun r=>r.1 == n)=some r:=by
      rw [List.find?_eq_some_iff_getElem];exact ⟨by simpa using N,k,by rw [B.out];exact u,p,fun j F=>by simpa using g j _ F⟩
     simp [rowOf,this]
    have o:=hide q;have Hk:=hide p;clear q p g;obtain ⟨P,Q,rfl,O⟩:=hs;go_wp2;refine bodyPost_ret (v:=.agg #[.int .i64 n,.string r.2.1,.slice P r.2.2.length Q]) (by simp [results,results72,go_sem,D]) rfl ⟨.slice P r.2.2.length Q,?_,?_,?_⟩
    ·rw [o.out,N]
    ·rw [o.out]
     exact ⟨_,_,rfl,(((O.setCell (Nat.lt_succ_self _) _).setCell (Nat.lt_succ_self _) _).setCell (Nat.lt_succ_self _) _).mono (YB _)⟩
    ·exact (((C.setCell (Y2 _) _).setCell (Y2 _) _).setCell (Y2 _) _)
   ·have z:∀j (h:j<table.length),j<k+1->table[j].1≠n:=by
     intro j h F
     by_cases L:j=k
     ·subst L
      rw [p];exact N
     ·exact g j h Z0
    have G:=hide z;clear p g z;go_wp2;go_round
    case rel=>exact ⟨k+1,u,Zr,G.out⟩
    case measure=>simp [intOf];omega
  ·have q:rowOf n=(0,⟨#[]⟩,[]):=by
    have:table.find? (fun r=>r.1 == n)=none:=by
     rw [List.find?_eq_none];intro s hs;obtain ⟨j,F,rfl⟩:=YM hs;have X:=B.out;simpa using g j F Z0
    simp [rowOf,this]
   have o:=hide q;clear q g;go_wp2;refine bodyPost_ret (v:=.agg #[.int .i64 0,.string ⟨#[]⟩,.slice none 0 0]) (by simp [results,results72,go_sem,D]) rfl ⟨.slice none 0 0,?_,?_,?_⟩
   ·rw [o.out]
   ·rw [o.out]
    exact ⟨none,0,rfl,Sl.nil_⟩
   ·exact (((C.setCell (Y2 _) _).setCell (Y2 _) _).setCell (Y2 _) _)
theorem zI (P:Int->Prop) (S:P 1) (T:P 2) (U:P 3) (V:P 4) (X:P 5) (Y:P 6) (Z:P 7) (C:P 20) (D:P 21) (F:P 30) (G:P 31) (I:P 32) (J:P 33) (K:P 34) (L:P 50) (N:P 51) (O:P 52) (Q:P 53) (R:P 60) (ho:∀n,n≠1->n≠2->n≠3->n≠4->n≠5->n≠6->n≠7->n≠20->n≠21->n≠30->n≠31->n≠32->n≠33->n≠34->n≠50->n≠51->n≠52->n≠53->n≠60->P n) (n:Int):P n:=by
 by_cases c1:n=1
 ·subst c1;exact S
 by_cases c2:n=2
 ·subst c2;exact T
 by_cases c3:n=3
 ·subst c3;exact U
 by_cases c4:n=4
 ·subst c4;exact V
 by_cases c5:n=5
 ·subst c5;exact X
 by_cases c6:n=6
 ·subst c6;exact Y
 by_cases c7:n=7
 ·subst c7;exact Z
 by_cases g:n=20
 ·subst g;exact C
 by_cases h:n=21
 ·subst h;exact D
 by_cases j:n=30
 ·subst j;exact F
 by_cases o:n=31
 ·subst o;exact G
 by_cases p:n=32
 ·subst p;exact I
 by_cases q:n=33
 ·subst q;exact J
 by_cases r:n=34
 ·subst r;exact K
 by_cases u:n=50
 ·subst u;exact L
 by_cases v:n=51
 ·subst v;exact N
 by_cases z:n=52
 ·subst z;exact O
 by_cases A:n=53
 ·subst A;exact Q
 by_cases B:n=60
 ·subst B;exact R
 exact ho n c1 c2 c3 c4 c5 c6 c7 g h j o p q r u v z A B
theorem lF:∀n,(rowOf n).2.2=forms n:=by
 refine zI _ Z7 Z7 Z7 Z7 Z7 Z7 Z7 Z7 Z7 Z7 Z7 Z7 Z7 Z7 Z7 Z7 Z7 Z7 Z7 ?_;intro n F G I J K L N g j o p q u v z A B C D
 have h:table.find? (fun r=>r.1 == n)=none:=by
  simp [table];omega
 unfold rowOf;rw [h];simp [forms, *]
theorem xP:∀n,(rowOf n).2.1=word n:=by
 refine zI _ Z7 Z7 Z7 Z7 Z7 Z7 Z7 Z7 Z7 Z7 Z7 Z7 Z7 Z7 Z7 Z7 Z7 Z7 Z7 ?_;intro n F G I J K L N g j o p q u v z A B C D
 have h:table.find? (fun r=>r.1 == n)=none:=by
  simp [table];omega
 unfold rowOf;rw [h];simp [word,Me, *]
@[go_sem] theorem TP (a b c:Value) (w:World):(Instr.field 151 (.agg #[a,b,c]) 1).run prog w=.ok b w:=by kernel_rfl
@[go_sem] theorem UK (a b c:Value) (w:World):(Instr.field 151 (.agg #[a,b,c]) 2).run prog w=.ok c w:=by kernel_rfl
theorem Oe (n m:Int) (w:World) :
  Calls prog 71 #[.int .i64 n,.int .i64 m] w fun e w'=>e=.returned (.tuple #[.string (fit n m).1,.bool (fit n m).2])/\Below w.heap.size w w':=by
 have q:=lK n;have g:=hide (lF n);go_enter func71,ntmps71;go_wp2_with fail;refine (Et _ _).mono ?_;rw [g.out];rintro e w1 ⟨v,rfl,⟨A,c,rfl,h⟩,hb⟩;go_wp2
 go_loop [7] (fun i=>∃k:Nat,k<=(forms n).length/\i=.int .i64 k/\∀j s,j<k->(forms n)[j]?=some s->(s.size:Int)≠m) (fun i=>(forms n).length - (intOf i).toNat)
 case atStart=>exact ⟨0,Yb _,rfl,Z3⟩
 case round =>
  obtain ⟨k,p,rfl,hno⟩:=hrel
  by_cases hlt:k<(forms n).length
  ·obtain ⟨o,rfl,_,hc⟩:=h.str hlt
   exact zzac2
  ·have hf:fit n m=(⟨#[]⟩,false):=by
    have:(forms n).find? (fun s=>(s.size:Int) == m)=none:=by
     rw [List.find?_eq_none];intro s hs;obtain ⟨j,hj,rfl⟩:=YM hs;simpa using hno j _ Z0 (Y1 hj)
    simp [fit,this]
   have Hf:=hide hf;clear hf hno;go_wp2;go_ret2;exact ⟨by rw [Hf.out];rfl,hb⟩
end Go.Proofs.YtnhekaepgpbijaaGreatDoor

namespace Go.Proofs.YtnhekaepgpbijaaGreatDoor
open Go.Proofs.Tryz Go.RowKit Go.ChangeShapes Go.WideShapes Go.Sort
variable {n:Int} {B e h i j k:Nat} {a b c d:Value} {w0:World} {A:Option Addr} {l:List Fld} {f r:List UInt8} {ps:List (List UInt8)}
theorem JC (h:(rowOf n).2.2≠[]):(rowOf n).1=n:=by
 unfold rowOf at h ⊢
 cases g:table.find? (fun r=>r.1 == n) with
 | none =>
  rw [g] at h;exact absurd rfl h
 | some r =>
  have:=List.find?_some g;simpa using this
theorem xB (n:Int):(word n).size<=60:=by
 unfold word Me
 repeat' refine rR (P:=fun b:ByteArray=>b.size<=60) ?_ ?_
 all_goals decide
def VD (D:Te) (w:World) (e:Ending) (w':World):Prop :=
 Below w.heap.size w w'/\((∃num l A c,D=.ok num l/\e=.returned (.tuple #[.agg #[.int .i64 (num:Nat),.slice A l.length c],.agg #[.int .i64 0,.string ⟨#[]⟩]])/\eT w.heap.size w' A l) \/
  (∃ps,∃k:Nat,fu D=some (ps,k)/\k≠0/\e=.returned (.tuple #[.agg #[.int .i64 0,.slice none 0 0],.agg #[.int .i64 k,.string (bs (atL ps))]])))
theorem M3 (p:List UInt8) (ps:List (List UInt8)):atL (p :: ps)=p++[32]++atL ps:=rfl
theorem uR:atL [kZ]=[109,101,115,115,97,103,101,32]:=Z2
structure qX (w:World) (h:Nat) (a b c d:Value):Prop where
 m:Blk w h 55 #[a,b]
 e:Blk w (h+1) 45 #[c,d]
theorem qX.below {w w':World} (t:qX w h a b c d) (g:Below w.heap.size w w'):qX w' h a b c d:=⟨t.m.below g t.m.lt,t.e.below g t.e.lt⟩
theorem qX.set {w:World} (t:qX w h a b c d) (v0 v1 u0 u1:Value):qX ((((w.setCell ⟨h,0,none⟩ v0).setCell ⟨h,1,none⟩ v1).setCell ⟨h+1,0,none⟩ u0).setCell ⟨h+1,1,none⟩ u1) h v0 v1 u0 u1:=by
 have g:=dI t.m v0 v1;have j:=(t.e.far (p:=⟨h,0,none⟩) Z3 v0).far (p:=⟨h,1,none⟩) Z3 v1;exact ⟨(g.far (p:=⟨h+1,0,none⟩) Z3 u0).far (p:=⟨h+1,1,none⟩) Z3 u1,dI j u0 u1⟩
theorem qX.bel {w:World} (j:Below B w0 w) (g:B<=h) (v0 v1 u0 u1:Value):Below B w0 ((((w.setCell ⟨h,0,none⟩ v0).setCell ⟨h,1,none⟩ v1).setCell ⟨h+1,0,none⟩ u0).setCell ⟨h+1,1,none⟩ u1) :=
 (((j.setCell (p:=⟨h,0,none⟩) g v0).setCell (p:=⟨h,1,none⟩) g v1).setCell (p:=⟨h+1,0,none⟩) (Nat.le_succ_of_le g) u0).setCell (p:=⟨h+1,1,none⟩) (Nat.le_succ_of_le g) u1
theorem qX.flds {lo:Nat} {w:World} (j:eT lo w A l) (g:h+1<lo) (v0 v1 u0 u1:Value):eT lo ((((w.setCell ⟨h,0,none⟩ v0).setCell ⟨h,1,none⟩ v1).setCell ⟨h+1,0,none⟩ u0).setCell ⟨h+1,1,none⟩ u1) A l :=
 (((j.setCell (p:=⟨h,0,none⟩) (by show h<lo;omega) v0).setCell (p:=⟨h,1,none⟩) (by show h<lo;omega) v1).setCell (p:=⟨h+1,0,none⟩) g u0).setCell (p:=⟨h+1,1,none⟩) g u1
structure Mm (w:World) (p:List UInt8) (fs:List ByteArray) (num:Nat) (fv:Value) (b4 j:Nat) (wr:World):Prop where
 bel:Below w.heap.size w wr
 two:qX wr w.heap.size (.int .i64 0) (.slice none 0 0) (.int .i64 0) (.string ⟨#[]⟩)
 row:Blk wr b4 151 #[.int .i64 num,.string (word (num:Nat)),fv]
 rest:dL fs (p.drop 1)=dL (fs.drop j) (p.drop 1)
section
variable {w : World}
theorem dR (pl:ByteArray) (b3:pl.size<=1000000):Calls prog 64 #[.string pl] w (VD (dC pl.data.toList) w):=by
 have X:qX ((w.alloc (.cells #[.int .i64 0,.slice none 0 0] 55)).alloc (.cells #[.int .i64 0,.string ⟨#[]⟩] 45)) w.heap.size (.int .i64 0) (.slice none 0 0) (.int .i64 0) (.string ⟨#[]⟩):=⟨(Blk.new w _ _).alloc _,bL w _ _ _⟩
 have Y:Below w.heap.size w ((w.alloc (.cells #[.int .i64 0,.slice none 0 0] 55)).alloc (.cells #[.int .i64 0,.string ⟨#[]⟩] 45)):=Z4
 by_cases O:pl=⟨#[]⟩
 ·subst O
  have HE:=hide (show fu (dC (⟨#[]⟩:ByteArray).data.toList)=some ([kZ],4) from Z5);have HM:=hide (show bs (atL [kZ])=(⟨#[109,101,115,115,97,103,101,32]⟩:ByteArray) from by rw [uR];rfl);clear X Y;go_enter func64,ntmps64;go_wp2_with fail;exact bodyPost_ret (v:=.tuple #[.agg #[.int .i64 0,.slice none 0 0],.agg #[.int .i64 4,.string ⟨#[109,101,115,115,97,103,101,32]⟩]]) (by simp [results,results64,go_sem]) rfl ⟨Z4,.inr ⟨[kZ],4,HE.out,Z2,by rw [HM.out];rfl⟩⟩
 ·have hz:0<pl.size:=Nat.pos_of_ne_zero (fun e=>O (by
   have:pl.data.size=0:=e;have h2:pl.data=#[]:=Array.eq_empty_of_size_eq_zero this;cases pl
   simp_all))
  have af:pl.data.toList.length=pl.size:=rfl;obtain ⟨c,r,aa⟩:=List.exists_cons_of_ne_nil (show pl.data.toList≠[] from fun e=>by rw [e] at af;simp at af;omega)
  have av:pl[0]=c:=by
   have h2:pl.data.toList[0]'(by rw [af];exact hz)=c:=by simp only [aa,List.getElem_cons_zero]
   exact h2
  have ch:((pl.size:Int) == 0)=false:=Z6
  have bl:wrap64 ((pl[0].toNat:Nat):Int)=(pl[0].toNat:Nat):=by
   have:=pl[0].toNat_lt;unfold wrap64;omega
  rw [aa] at af ⊢
  by_cases S:32768<pl.size
  ·have aF:(32768:Int)<pl.size:=by omega
   have HE:=hide (show fu (dC (c :: r))=some ([kZ],2) from by rw [oP Z0];rfl);have HM:=hide (show bs (atL [kZ])=(⟨#[109,101,115,115,97,103,101,32]⟩:ByteArray) from by rw [uR];rfl);clear X Y av S O bl;go_enter func64,ntmps64;go_wp2_with fail;exact bodyPost_ret (v:=.tuple #[.agg #[.int .i64 0,.slice none 0 0],.agg #[.int .i64 2,.string ⟨#[109,101,115,115,97,103,101,32]⟩]]) (by simp [results,results64,go_sem]) rfl ⟨Z4,.inr ⟨[kZ],2,HE.out,Z2,by rw [HM.out];rfl⟩⟩
  ·have aF:¬ (32768:Int)<pl.size:=by omega
   have aE:¬ 32768<(c :: r).length:=Z0;have K:=hide (fun W=>Et (c.toNat:Nat) W);have bc:=hide av
   cases hfs:forms c.toNat with
   | nil =>
    rw [lF,hfs] at K;have HE:=hide (show fu (dC (c :: r))=some ([kZ],6) from by rw [oF aE hfs];rfl);have HM:=hide (show bs (atL [kZ])=(⟨#[109,101,115,115,97,103,101,32]⟩:ByteArray) from by rw [uR];rfl);have HX:=hide (Y4 X Y);generalize (rowOf (c.toNat:Nat)).1=rn at K;generalize (rowOf (c.toNat:Nat)).2.1=a0 at K;clear X Y av S aE hfs aa O;go_enter func64,ntmps64
    go_upto_region 6 with (first
     | (rw [bc.out];go_at_call 72;refine (K.out _).mono ?_;rintro e w1 ⟨fv,rfl,⟨U,fc,rfl,am⟩,C⟩)
     | fail)
    try rw [show ([]:List ByteArray).length=0 from rfl]
    have o:=(HX.out.1.below C).below ((Below.refl _ _).alloc (Y2 _) (.cells #[.int .i64 rn,.string a0,.slice U 0 fc] 151))
    have z:Below w.heap.size w (w1.alloc (.cells #[.int .i64 rn,.string a0,.slice U 0 fc] 151)):=((HX.out.2.trans (C.mono HX.out.2.size)).alloc (Yg HX.out.2.size C.size) _)
    have g:=Blk.new w1 151 #[.int .i64 rn,.string a0,.slice U 0 fc];generalize w1.alloc (.cells #[.int .i64 rn,.string a0,.slice U 0 fc] 151)=w3 at o z g ⊢;generalize w1.heap.size=b4 at g ⊢;have z2:=g.cell 2;simp at z2;clear am C HX;have x0:=o.m.cell 0;have x1:=o.m.cell 1;have t0:=o.m.frozen 0;have t1:=o.m.frozen 1;have y0:=o.e.cell 0;have y1:=o.e.cell 1;have s0:=o.e.frozen 0;have s1:=o.e.frozen 1;simp at x0 x1 y0 y1;go_wp2_with fail;have hF:=o.set (.int .i64 0) (.slice none 0 0) (.int .i64 6) (.string ⟨#[109,101,115,115,97,103,101,32]⟩);have L:=qX.bel (h:=w.heap.size) z (Y2 _) (.int .i64 0) (.slice none 0 0) (.int .i64 6) (.string ⟨#[109,101,115,115,97,103,101,32]⟩);generalize ((((w3.setCell ⟨w.heap.size,0,none⟩ (.int .i64 0)).setCell ⟨w.heap.size,1,none⟩ (.slice none 0 0)).setCell ⟨w.heap.size+1,0,none⟩ (.int .i64 6)).setCell ⟨w.heap.size+1,1,none⟩ (.string ⟨#[109,101,115,115,97,103,101,32]⟩))=wF at hF L ⊢;have q0:=hF.m.cell 0;have q1:=hF.m.cell 1;have q2:=hF.e.cell 0;have q3:=hF.e.cell 1;simp at q0 q1 q2 q3;exact bodyPost_ret (v:=.tuple #[.agg #[.int .i64 0,.slice none 0 0],.agg #[.int .i64 6,.string ⟨#[109,101,115,115,97,103,101,32]⟩]]) X2 rfl ⟨L,.inr ⟨[kZ],6,HE.out,Z2,by rw [HM.out];rfl⟩⟩
   | cons f0 fs0 =>
    have a5:=JC (n:=(c.toNat:Nat)) (by rw [lF,hfs];simp);rw [lF,xP,a5,hfs] at K;have a4:∀f∈f0 :: fs0,f.size<=13:=fun f hf=>(je (n:=(c.toNat:Nat)) (by rw [hfs];exact hf)).1
    have Z:=hide (fun l (h:dL (f0 :: fs0) r=some l)=>qN (c:=c) (r:=r) (l:=l) Z0 XU);have J:=hide (fun (h:dL (f0 :: fs0) r=none)=>q8 (c:=c) (r:=r) (f:=f0) (fs:=fs0) aE hfs XU);generalize hD:dC (c :: r)=D at Z J ⊢;have Q:=hide (fun (W:World) (f:ByteArray) (hf:f∈f0 :: fs0)=>Fa (w:=W) pl f b3 hz (a4 f hf));rw [aa] at Q;rw [show List.drop 1 (c :: r)=r from rfl] at Q;have HX:=hide (Y4 X Y);have bt:(f0 :: fs0).length<=3:=by rw [<-hfs];exact lK _
    obtain ⟨fs,N⟩:∃fs,fs=f0 :: fs0:=⟨_,rfl⟩
    have a3:=hide N;have bw:0<fs.length:=by rw [N];simp
    have br:fs[0]=f0:=by simp [N]
    rw [<-N] at bt K Q Z J;have b6:((fs.length:Int) == 0)=false:=Z6;clear hD a4 a5 N hfs av X Y S aE af aa O;go_enter func64,ntmps64
    go_upto_region 6 with (first
     | (rw [bc.out];go_at_call 72;refine (K.out _).mono ?_;rintro e w1 ⟨fv,rfl,⟨U,fc,rfl,am⟩,C⟩)
     | fail)
    have cg:True:=trivial;have o:=(HX.out.1.below C).below ((Below.refl _ _).alloc (Y2 _) (.cells #[.int .i64 (c.toNat:Nat),.string (word (c.toNat:Nat)),.slice U fs.length fc] 151))
    have z:Below w.heap.size w (w1.alloc (.cells #[.int .i64 (c.toNat:Nat),.string (word (c.toNat:Nat)),.slice U fs.length fc] 151)):=((HX.out.2.trans (C.mono HX.out.2.size)).alloc (Yg HX.out.2.size C.size) _)
    have g:=Blk.new w1 151 #[.int .i64 (c.toNat:Nat),.string (word (c.toNat:Nat)),.slice U fs.length fc];have G:=am.alloc (.cells #[.int .i64 (c.toNat:Nat),.string (word (c.toNat:Nat)),.slice U fs.length fc] 151);have bp:w.heap.size+2<=w1.heap.size:=by have:=C.size;simp at this;omega
    clear am C HX K;generalize w1.alloc (.cells #[.int .i64 (c.toNat:Nat),.string (word (c.toNat:Nat)),.slice U fs.length fc] 151)=w3 at o z g G ⊢;generalize w1.heap.size=b4 at g bp ⊢;have z2:=g.cell 2;simp at z2;have a6:=hide (show Mm w (c :: r) fs c.toNat (.slice U fs.length fc) b4 0 w3/\Sl 0 w3 1 U fs.length (fs.map Value.string) from ⟨⟨z,o,g,rfl⟩,G.mono (Yb _)⟩);clear o z g G;go_wp2_with fail;clear z2
    go_loopw [5] (fun vi wr=>∃j:Nat,vi=.int .i64 j/\j<=fs.length/\Hid (Mm w (c :: r) fs c.toNat (.slice U fs.length fc) b4 j wr/\Sl 0 wr 1 U fs.length (fs.map Value.string))) (fun vi _=>fs.length - (intOf vi).toNat)
    case atStart=>exact ⟨0,rfl,Yb _,a6⟩
    case round =>
     obtain ⟨j,rfl,hj,HI⟩:=hrel;have aq:=HI.out.1.bel;have V:=HI.out.1.two;have g:=HI.out.1.row;have u:=HI.out.1.rest;have G:=HI.out.2;have z0:=g.cell 0;have z1:=g.cell 1;have z2:=g.cell 2;simp at z0 z1 z2
     by_cases a8:j<fs.length
     ·obtain ⟨ad,rfl,bo,hc⟩:=G.str a8
      have bj:=Yf a8;have bx:(j:Int)<fs.length:=Z0;rw [List.drop_eq_getElem_cons a8] at u;have HR:=hide (Q.out wr fs[j] bj);have B:=hide (fun (h:∀l,aQ fs[j].data.toList r 0≠.ok l)=>u.trans (iR h));have P:=hide (fun l (h:aQ fs[j].data.toList r 0=.ok l)=>Z.out l (u.trans (fV h)));have I:=hide (Y4 V (Y4 aq (Y4 G g)));have bm:w.heap.size+1<wr.heap.size:=V.e.lt;generalize fs[j]=f at hc HR B P;generalize aQ f.data.toList r 0=R at HR B P;clear aq V g G u HI bj Q Z J a6;go_wp2_with fail;refine HR.out.mono ?_;rintro e w2 ⟨A,(⟨l,A2,c2,F,rfl,a7⟩ | ⟨ps,k,F,ac,aw,hal,rfl⟩)⟩
      ·have HY:=hide (P.out _ F)
       clear F P B HR z0 z1 z2 hc;go_upto_region 12 with fail;have p:Below wr.heap.size wr (w2.alloc (.cells #[.int .i64 0,.string ⟨#[]⟩] 45)):=A.alloc A.size _;have o:=I.out.1.below p;have z:=I.out.2.1.trans (p.mono Z0);have g:=I.out.2.2.2.below p I.out.2.2.2.lt;have q:=Blk.new w2 45 #[.int .i64 0,.string ⟨#[]⟩];have bd:=a7.below ((Below.refl _ _).alloc (Y2 _) (.cells #[.int .i64 0,.string ⟨#[]⟩] 45));generalize w2.alloc (.cells #[.int .i64 0,.string ⟨#[]⟩] 45)=w3 at o z g q bd ⊢;generalize w2.heap.size=b7 at q ⊢;have z0:=g.cell 0;have z7:=q.cell 0;simp at z0 z7;clear I p A a7;have x0:=o.m.cell 0;have x1:=o.m.cell 1;have t0:=o.m.frozen 0;have t1:=o.m.frozen 1;have y0:=o.e.cell 0;have y1:=o.e.cell 1;have s0:=o.e.frozen 0;have s1:=o.e.frozen 1;simp at x0 x1 y0 y1;go_wp2_with fail;have hF:=o.set (.int .i64 (c.toNat:Nat)) (.slice A2 l.length c2) (.int .i64 0) (.string ⟨#[]⟩);have L:=qX.bel (h:=w.heap.size) z (Y2 _) (.int .i64 (c.toNat:Nat)) (.slice A2 l.length c2) (.int .i64 0) (.string ⟨#[]⟩);have be:=qX.flds bd bm (.int .i64 (c.toNat:Nat)) (.slice A2 l.length c2) (.int .i64 0) (.string ⟨#[]⟩);generalize ((((w3.setCell ⟨w.heap.size,0,none⟩ (.int .i64 (c.toNat:Nat))).setCell ⟨w.heap.size,1,none⟩ (.slice A2 l.length c2)).setCell ⟨w.heap.size+1,0,none⟩ (.int .i64 0)).setCell ⟨w.heap.size+1,1,none⟩ (.string ⟨#[]⟩))=wF at hF L be ⊢;have q0:=hF.m.cell 0;have q1:=hF.m.cell 1;have q2:=hF.e.cell 0;have q3:=hF.e.cell 1;simp at q0 q1 q2 q3;exact bodyPost_ret (v:=.tuple #[.agg #[.int .i64 (c.toNat:Nat),.slice A2 l.length c2],.agg #[.int .i64 0,.string ⟨#[]⟩]]) X2 rfl ⟨L,.inl ⟨c.toNat,l,A2,c2,HY.out,rfl,be.mono Z0⟩⟩
      ·have HN:=hide (B.out ac)
       have b8:((k:Int) == 0)=false:=Z6;clear F ac P B HR z0 z1 z2 hc aw;go_upto_region 12 with fail;have p:Below wr.heap.size wr (w2.alloc (.cells #[.int .i64 k,.string (bs (atL ps))] 45)):=A.alloc A.size _;have ba:=hide (show Mm w (c :: r) fs c.toNat (.slice (some ad) fs.length fc) b4 (j+1) (w2.alloc (.cells #[.int .i64 k,.string (bs (atL ps))] 45))/\Sl 0 (w2.alloc (.cells #[.int .i64 k,.string (bs (atL ps))] 45)) 1 (some ad) fs.length (fs.map Value.string) from ⟨⟨I.out.2.1.trans (p.mono Z0),I.out.1.below p,I.out.2.2.2.below p I.out.2.2.2.lt,HN.out⟩,I.out.2.2.1.below p⟩);have q:=Blk.new w2 45 #[.int .i64 k,.string (bs (atL ps))];clear p;generalize w2.alloc (.cells #[.int .i64 k,.string (bs (atL ps))] 45)=w3 at ba q ⊢;generalize w2.heap.size=b7 at q ⊢;have z7:=q.cell 0;simp at z7;clear I A;go_wp2_with fail;exact ⟨⟨j+1,Zr,Z0,ba⟩,Zh⟩
     ·have b0:j=fs.length:=by omega
      subst b0;have bx:¬ (fs.length:Int)<fs.length:=Z0;have T:dL fs r=none:=u.trans (by rw [List.drop_length];rfl);obtain ⟨ad,rfl,bo,hc⟩:=G.str bw;rw [br] at hc
      have bg:ad.add 0=ad:=by
       obtain ⟨ab,ao,an⟩:=ad;rfl
      rw [bg] at hc;have HR:=hide (Q.out wr f0 (by rw [a3.out];simp))
      have a9:=hide (fun l (h:aQ f0.data.toList r 0=.ok l)=>show False from by
       have h2:=T;rw [a3.out,fV h] at h2
       cases h2)
      have hD:=hide (J.out T);have I:=hide (Y4 V (Y4 aq g));have bm:w.heap.size+1<wr.heap.size:=V.e.lt;generalize aQ f0.data.toList r 0=R at HR a9 hD;clear aq V g G u HI Q Z J a6 T;go_wp2_with fail;refine HR.out.mono ?_;rintro e w2 ⟨A,(⟨l,A2,c2,F,rfl,a7⟩ | ⟨ps,k,F,ac,aw,hal,rfl⟩)⟩
      ·exact (a9.out _ F).elim
      ·have HE:=hide (show fu D=some ((word (c.toNat:Nat)).data.toList :: ps,k) from by
        rw [hD.out];show Option.map _ (jw R)=_;rw [F]
        rfl)
       have b5:=xB (c.toNat:Nat);generalize word (c.toNat:Nat)=wd at HE I z1 b5;have bb:=hide (show wd++(⟨#[32]⟩:ByteArray)++bs (atL ps)=bs (atL (wd.data.toList :: ps)) from kG (by rw [data_append,data_append,M3,aO]));have bn:=hide aw;clear F ac HR z0 z1 z2 hc aw a9 hD;go_upto_region 15 with fail;have p:Below wr.heap.size wr (w2.alloc (.cells #[.int .i64 k,.string (bs (atL ps))] 45)):=A.alloc A.size _;have o:=I.out.1.below p;have z:=I.out.2.1.trans (p.mono Z0);have g:=I.out.2.2.below p I.out.2.2.lt;have q:=Blk.new w2 45 #[.int .i64 k,.string (bs (atL ps))];generalize w2.alloc (.cells #[.int .i64 k,.string (bs (atL ps))] 45)=w3 at o z g q ⊢;have bq:w.heap.size+2<=w2.heap.size:=by have:=A.size;omega
       generalize w2.heap.size=b7 at q bq ⊢;have z1:=g.cell 1;have z7:=q.cell 0;have z8:=q.cell 1;simp at z1 z7 z8;clear I p A;have bh:(bs (atL ps)).size<=10:=hal;generalize bs (atL ps)=ap at bb z8 q bh;have x0:=o.m.cell 0;have x1:=o.m.cell 1;have t0:=o.m.frozen 0;have t1:=o.m.frozen 1;have y0:=o.e.cell 0;have y1:=o.e.cell 1;have s0:=o.e.frozen 0;have s1:=o.e.frozen 1;simp at x0 x1 y0 y1;have cd:¬ b7=w.heap.size:=Z0;have ac:¬ b7=w.heap.size+1:=Z0;have ce:¬ b4=w.heap.size:=Z0;have cf:¬ b4=w.heap.size+1:=Z0;have b9:¬ w.heap.size=b7:=Z0;have ca:¬ w.heap.size+1=b7:=Z0;have cb:¬ w.heap.size=b4:=Z0;have cc:¬ w.heap.size+1=b4:=Z0;go_region;go_wp2_with fail;have hF:=o.set (.int .i64 0) (.slice none 0 0) (.int .i64 (k:Nat)) (.string (wd++(⟨#[32]⟩:ByteArray)++ap));have L:=qX.bel (h:=w.heap.size) z (Y2 _) (.int .i64 0) (.slice none 0 0) (.int .i64 (k:Nat)) (.string (wd++(⟨#[32]⟩:ByteArray)++ap));generalize ((((w3.setCell ⟨w.heap.size,0,none⟩ (.int .i64 0)).setCell ⟨w.heap.size,1,none⟩ (.slice none 0 0)).setCell ⟨w.heap.size+1,0,none⟩ (.int .i64 (k:Nat))).setCell ⟨w.heap.size+1,1,none⟩ (.string (wd++(⟨#[32]⟩:ByteArray)++ap)))=wF at hF L ⊢;have q0:=hF.m.cell 0;have q1:=hF.m.cell 1;have q2:=hF.e.cell 0;have q3:=hF.e.cell 1;simp at q0 q1 q2 q3;exact bodyPost_ret (v:=.tuple #[.agg #[.int .i64 0,.slice none 0 0],.agg #[.int .i64 (k:Nat),.string (wd++(⟨#[32]⟩:ByteArray)++ap)]]) X2 rfl ⟨Below.drew L,.inr ⟨_,k,HE.out,bn.out,by rw [bb.out]⟩⟩
end
theorem Dx (out:List UInt8) (g:i<f.length) (h:i<l.length) :
  gG (f.drop i) (l.drop i) i out=if l[i].k=f[i].toNat then (if (fP l[i]).1=0 then (if 32768<(out++(fP l[i]).2).length then .long else gG (f.drop (i+1)) (l.drop (i+1)) (i+1) (out++(fP l[i]).2)) else .bad (fP l[i]).1 i) else .bad 3 i:=by
 rw [xC out g h];unfold fP
 cases hp:bK l[i] with
 | true=>simp
 | false=>simp
theorem KX {x:Fld} (g:SzF x):(fP x).2.length<=200000000:=by
 unfold fP
 split
 ·exact Da g
 ·simp
theorem Jc (x:Fld):(fP x).1<=5:=by
 unfold fP
 split
 ·exact uo x
 ·simp
def TG (num:Int) (l:List Fld) (w:World) (e:Ending) (w':World):Prop :=
 Below w.heap.size w w'/\((∃s,encS num l=.ok s/\e=.returned (.tuple #[.string (bs s),.agg #[.int .i64 0,.string ⟨#[]⟩]])) \/
  (∃ps,∃k:Nat,ic num (encS num l)=some (ps,k)/\k≠0/\e=.returned (.tuple #[.string ⟨#[]⟩,.agg #[.int .i64 k,.string (bs (atL ps))]])))
structure Tu (w:World) (num:Int) (l:List Fld) (A:Option Addr) (c:Nat) (f:ByteArray) (i:Nat) (out:List UInt8) (wr:World):Prop where
 bel:Below w.heap.size w wr
 box:Blk wr w.heap.size 55 #[.int .i64 num,.slice A l.length c]
 eb:Blk wr (w.heap.size+1) 45 #[.int .i64 0,.string ⟨#[]⟩]
 go:gG (f.data.toList.drop i) (l.drop i) i out=encS num l
 len:out.length<=32768
theorem rf {w:World} {g:Nat} (j:Below B w0 w) (h:B<=g) (v0 v1:Value):Below B w0 ((w.setCell ⟨g,0,none⟩ v0).setCell ⟨g,1,none⟩ v1):=(j.setCell (p:=⟨g,0,none⟩) h v0).setCell (p:=⟨g,1,none⟩) h v1
section
variable {w : World}
theorem zQ (num:Int) {c:Nat} (hl:ik w A l) (hs:∀x∈l,SzF x) (b0:l.length<=1000) :
  Calls prog 28 #[.agg #[.int .i64 num,.slice A l.length c]] w (TG num l w):=by
 have HF:=hide (fun W=>Oe num (l.length:Int) W)
 obtain ⟨W0,hW0⟩:∃W0,W0=(w.alloc (.cells #[.int .i64 num,.slice A l.length c] 55)).alloc (.cells #[.int .i64 0,.string ⟨#[]⟩] 45):=⟨_,rfl⟩
 have aa:Below w.heap.size w W0:=Zg;have P:Blk W0 w.heap.size 55 #[.int .i64 num,.slice A l.length c]:=Zc;have V:Blk W0 (w.heap.size+1) 45 #[.int .i64 0,.string ⟨#[]⟩]:=Xr;have m0:=P.cell 0;have m1:=P.cell 1;simp at m0 m1
 cases hf:(fit num l.length).2 with
 | false =>
  have S:=hide (show ic num (encS num l)=some ([kZ],6) from by unfold encS;rw [hf];rfl);have HM:=hide (show bs (atL [kZ])=(⟨#[109,101,115,115,97,103,101,32]⟩:ByteArray) from by rw [uR];rfl);rw [hf] at HF;generalize (fit num l.length).1=f at HF;have C:=hide (Y4 V aa);clear hl hs P V aa hf;go_enter func28,ntmps28;go_upto_region 1 with fail;rw [<-hW0];clear hW0
  go_wp2_with (first
   | (go_at_call 71;refine (HF.out _).mono ?_;rintro e w1 ⟨rfl,r⟩;have z:=C.out.1.below r C.out.1.lt;have L:=z.cell 0;have N:=z.cell 1;have s0:=z.frozen 0;have s1:=z.frozen 1;simp at L N)
   | fail)
  have hF:=dI z (.int .i64 6) (.string ⟨#[109,101,115,115,97,103,101,32]⟩);have q2:=hF.cell 0;have q3:=hF.cell 1;simp at q2 q3;exact bodyPost_ret (v:=.tuple #[.string ⟨#[]⟩,.agg #[.int .i64 6,.string ⟨#[109,101,115,115,97,103,101,32]⟩]]) ZU rfl ⟨rf (C.out.2.trans (r.mono C.out.2.size)) (YB _) _ _,.inr ⟨[kZ],6,S.out,Z2,by rw [HM.out];rfl⟩⟩
 | true =>
  obtain ⟨I,a6⟩:=oM hf;obtain ⟨a0,af⟩:=je I;have hn:=uf (n:=num) (fun e=>by rw [e] at I;simp at I)
  have D:gG ((fit num l.length).1.data.toList.drop 0) (l.drop 0) 0 [UInt8.ofNat num.toNat]=encS num l:=by
   unfold encS;rw [Y6 hf];rfl
  rw [hf] at HF;generalize (fit num l.length).1=f at HF a6 a0 af D
  obtain ⟨m,rfl⟩:∃m:Nat,num=m:=⟨num.toNat,Z0⟩
  have a4:(m:Int).toNat=m:=Z3;rw [a4] at D;have HB:=hide (fun W=>oZ m W Z0)
  have b4:IntKind.u8.wrap (m:Int)=m:=by
   exact zz7df
  have T:=hide (fun W=>Et (m:Int) W);rw [xP] at T;have bq:=xB (m:Int)
  obtain ⟨B,av⟩:∃B,B=word (m:Int):=⟨_,rfl⟩
  rw [<-av] at T bq;have am:=hide av;have HL:=hide hl;have HS:=hide hs;have bt:f.data.toList.length=l.length:=a6;have bp:l.length<=13:=Z0;have br:(f.size:Int)=l.length:=Z0;have C:=hide (Y4 P (Y4 V aa));have aw:=hide D;clear hl hs P V aa D I hf hn a4 av af;go_enter func28,ntmps28;go_upto_region 1 with fail;rw [<-hW0];clear hW0
  go_upto_region 6 with (first
   | (go_at_call 71;refine (HF.out _).mono ?_;rintro e w1 ⟨rfl,r⟩;have Y:=C.out.1.below r C.out.1.lt;have x0:=Y.cell 0;simp at x0)
   | (go_at_call 72;refine (T.out _).mono ?_;rintro e w2 ⟨fv,rfl,bh,ab⟩;have aF:=Y.below ab Y.lt;have x2:=aF.cell 0;simp at x2)
   | (go_at_call 73;refine (HB.out _).mono ?_;rintro e w3 ⟨rfl,hb3⟩)
   | fail)
  have F:Below W0.heap.size W0 w3:=r.trans ((ab.mono r.size).trans (hb3.mono (Yg r.size ab.size)));have a7:=hide (show Tu w m l A c f 0 [UInt8.ofNat m] w3 from ⟨C.out.2.2.trans (F.mono C.out.2.2.size),C.out.1.below F C.out.1.lt,C.out.2.1.below F C.out.2.1.lt,aw.out,Z3⟩);have a9:=hide (fun (i:Nat) (h:i<100) W=>wL i h W);clear r ab hb3 Y aF x0 x2 m0 m1 HF T HB C aw F bh;go_wp2_with fail
  go_loopw [7,8] (fun vo vi wr=>∃(i:Nat) (out:List UInt8),vo=.string (bs out)/\vi=.int .i64 i/\i<=l.length/\Hid (Tu w m l A c f i out wr)) (fun _ vi _=>l.length - (intOf vi).toNat)
  case atStart=>exact ⟨0,_,rfl,rfl,Yb _,a7⟩
  case round =>
   obtain ⟨i,out,rfl,rfl,hi,HI⟩:=hrel;have ac:=HI.out.bel;have hM:=HI.out.box;have z:=HI.out.eb;have b3:=HI.out.len;have x0:=hM.cell 0;have x1:=hM.cell 1;have L:=z.cell 0;have N:=z.cell 1;have s0:=z.frozen 0;have s1:=z.frozen 1;simp at x0 x1 L N
   by_cases ap:i<l.length
   ·have bx:i<f.size:=by omega
    have bw:(i:Int)<l.length:=Z0;have bn:(i:Int)<f.size:=Z0;have K:=hide (Dx (i:=i) (f:=f.data.toList) (l:=l) out Z0 ap);have o:=hide HI.out.go;have a3:f.data.toList[i]'Z0=f[i]:=rfl;rw [a3] at K;obtain ⟨ad,A2,c2,rfl,q0,q1,q2,q3,an,bl,hk⟩:=GQ (HL.out.below ac) ap;have Z:=HS.out _ (Yf ap);have aq:=KX Z;have a5:=Jc l[i];generalize hx:l[i]=x at q0 q1 q2 q3 an bl hk Z K aq a5;have p:=hide (Y4 hM (Y4 z ac));have R:i<100:=Z0;have U:=hide (fun W=>a9.out i R W);have bm:(bs (atL [Lib.decDigits i])).size<=10:=zH i R;have ao:=hide (show B++(⟨#[32]⟩:ByteArray)++bs (atL [Lib.decDigits i])=bs (atL [B.data.toList,Lib.decDigits i]) from kG (by rw [data_append,data_append,aO];simp [atL]));have X:=hide (fun (W:World) (hb:Below wr.heap.size wr W)=>z.below hb z.lt);have q:=hide (fun (W:World) (hb:∃n,W=wr.drewN n)=>PV (w:=W) x Z (A:=A2) (c:=c2) (by obtain ⟨n,rfl⟩:=hb;exact an.below (below_drewN (Below.refl _ _) n)));unfold Says at U;generalize bs (atL [Lib.decDigits i])=pl at U ao bm;clear hM z HI hx a3 Z an HS
    by_cases J:x.k=f[i].toNat
    ·have ek:((x.k:Int) == (f[i].toNat:Int))=true:=VB J
     have bc:((x.k:Int) != (f[i].toNat:Int))=false:=by simp [bne,ek]
     have G:=hide (K.out.trans (Y6 J));clear K J;unfold fD at q
     by_cases he:(fP x).1=0
     ·have u:=hide (G.out.trans (Y6 he))
      unfold mf at q;rw [he] at q;clear G he;generalize (fP x).2=O at q u aq;have aE:(bs (out++O)).size=out.length+O.length:=by rw [aI,Ya]
      by_cases hL:32768<(out++O).length
      ·have S:=hide (show ic m (encS m l)=some ([B.data.toList],2) from by
        rw [<-o.out,u.out,Y6 hL,am.out]
        rfl)
       have bj:=hide (show B++(⟨#[32]⟩:ByteArray)=bs (atL [B.data.toList]) from kG (by rw [data_append];simp [atL]));have bd:(32768:Int)<(out.length:Int)+(O.length:Int):=XP;have be:(32768:Int)<((out.length+O.length:Nat):Int):=Z0;have bg:(32768:Int)<((bs (out++O)).size:Int):=by rw [aE];omega
       clear u hL o;go_upto_region 9 with fail;go_quiet (fail)
       go_wp2_with (first
        | (go_at_call 75;refine (q.out _ ⟨_,rfl⟩).mono ?_;rintro e w4 ⟨rfl,Q⟩;have j:=(below_drewN (Below.refl _ _) _).trans Q;have g:=X.out _ j;have L:=g.cell 0;have N:=g.cell 1;have s0:=g.frozen 0;have s1:=g.frozen 1;simp at L N)
        | fail)
       have hF:=dI g (.int .i64 2) (.string (B++(⟨#[32]⟩:ByteArray)));have q2:=hF.cell 0;have q3:=hF.cell 1;simp at q2 q3;exact bodyPost_ret (v:=.tuple #[.string ⟨#[]⟩,.agg #[.int .i64 2,.string (B++(⟨#[32]⟩:ByteArray))]]) ZU rfl ⟨rf (p.out.2.2.trans (j.mono p.out.2.2.size)) (YB _) _ _,.inr ⟨_,2,S.out,Z2,by rw [bj.out];rfl⟩⟩
      ·have HN:=hide (show gG (f.data.toList.drop (i+1)) (l.drop (i+1)) (i+1) (out++O)=encS m l from by rw [<-o.out,u.out,Y5 hL])
       have bd:¬ (32768:Int)<(out.length:Int)+(O.length:Int):=XP;have be:¬ (32768:Int)<((out.length+O.length:Nat):Int):=Z0;have bg:¬ (32768:Int)<((bs (out++O)).size:Int):=by rw [aE];omega
       have a8:=hide (YK hL);clear u hL o;go_upto_region 9 with fail;go_quiet (fail)
       go_wp2_with (first
        | (go_at_call 75;refine (q.out _ ⟨_,rfl⟩).mono ?_;rintro e w4 ⟨rfl,Q⟩;have j:=(below_drewN (Below.refl _ _) _).trans Q;have g:=X.out _ j;have L:=g.cell 0;have N:=g.cell 1;have s0:=g.frozen 0;have s1:=g.frozen 1;simp at L N)
        | fail)
       exact ⟨⟨i+1,out++O,rfl,Zr,Z0,hide ⟨p.out.2.2.trans (j.mono p.out.2.2.size),p.out.1.below j p.out.1.lt,g,HN.out,a8.out⟩⟩,Zh⟩
     ·have S:=hide (show ic m (encS m l)=some ([B.data.toList,Lib.decDigits i],(fP x).1) from by
       rw [<-o.out,G.out,Y5 he,am.out]
       rfl)
      have e1:(((fP x).1:Int) == 0)=false:=Z6;have e2:(((fP x).1:Int) != 0)=true:=XD;have He:=hide he;unfold mf at q;clear G o he;generalize (fP x).2=O at q aq;generalize (fP x).1=ke at q a5 S e1 e2 He;go_upto_region 9 with fail;go_quiet (fail)
      go_wp2_with (first
       | (go_at_call 75;refine (q.out _ ⟨_,rfl⟩).mono ?_;rintro e w4 ⟨rfl,Q⟩;have j:=(below_drewN (Below.refl _ _) _).trans Q;have g:=X.out _ j;have L:=g.cell 0;have N:=g.cell 1;have s0:=g.frozen 0;have s1:=g.frozen 1;simp at L N)
       | (go_at_call 74;refine (U.out _).mono ?_;rintro e w5 ⟨rfl,hb5⟩;have g:=g.below hb5 g.lt;have L:=g.cell 0;have N:=g.cell 1;have s0:=g.frozen 0;have s1:=g.frozen 1;simp at L N)
       | fail)
      have hF:=dI g (.int .i64 (ke:Nat)) (.string (B++(⟨#[32]⟩:ByteArray)++pl));have q2:=hF.cell 0;have q3:=hF.cell 1;simp at q2 q3;exact bodyPost_ret (v:=.tuple #[.string ⟨#[]⟩,.agg #[.int .i64 (ke:Nat),.string (B++(⟨#[32]⟩:ByteArray)++pl)]]) ZU rfl ⟨rf (p.out.2.2.trans ((j.trans (hb5.mono j.size)).mono p.out.2.2.size)) (YB _) _ _,.inr ⟨_,ke,S.out,He.out,by rw [ao.out]⟩⟩
    ·have ek:((x.k:Int) == (f[i].toNat:Int))=false:=jW J
     have bc:((x.k:Int) != (f[i].toNat:Int))=true:=by simp [bne,ek]
     have S:=hide (show ic m (encS m l)=some ([B.data.toList,Lib.decDigits i],3) from by
      rw [<-o.out,K.out,Y5 J,am.out]
      rfl)
     clear K o J q;go_upto_region 9 with fail;go_quiet (fail);have g:=p.out.2.1
     go_wp2_with (first
      | (go_at_call 74;refine (U.out _).mono ?_;rintro e w5 ⟨rfl,hb5⟩;have j:=(below_drewN (Below.refl _ _) _).trans hb5;have g:=X.out _ j;have L:=g.cell 0;have N:=g.cell 1;have s0:=g.frozen 0;have s1:=g.frozen 1;simp at L N)
      | fail)
     have hF:=dI g (.int .i64 3) (.string (B++(⟨#[32]⟩:ByteArray)++pl));have q2:=hF.cell 0;have q3:=hF.cell 1;simp at q2 q3;exact bodyPost_ret (v:=.tuple #[.string ⟨#[]⟩,.agg #[.int .i64 3,.string (B++(⟨#[32]⟩:ByteArray)++pl)]]) ZU rfl ⟨rf (p.out.2.2.trans (j.mono p.out.2.2.size)) (YB _) _ _,.inr ⟨_,3,S.out,Z2,by rw [ao.out];rfl⟩⟩
   ·have bo:i=l.length:=by omega
    subst bo;have bn:¬ (l.length:Int)<f.size:=Z0
    have S:=hide (show encS m l=.ok out from by
     rw [<-HI.out.go,List.drop_of_length_le Z0]
     rfl)
    have g:=z;have ba:=hide ac;clear HI hM z ac;go_wp2_with fail;have hF:=dI g (.int .i64 0) (.string ⟨#[]⟩);have q2:=hF.cell 0;have q3:=hF.cell 1;simp at q2 q3;exact bodyPost_ret (v:=.tuple #[.string (bs out),.agg #[.int .i64 0,.string ⟨#[]⟩]]) ZU rfl ⟨rf ba.out (YB _) _ _,.inl ⟨out,S.out,rfl⟩⟩
end
theorem IU:∀i<1000,(Lib.decDigits i).length<=1000:=Z7
theorem ET (h:aQ f r i=.no e j):j<i+f.length:=by
 induction f generalizing r i with
 | nil =>
  simp only [aQ] at h
  split at h <;> cases h
 | cons c f ih =>
  cases o:dx c.toNat r with
  | no e2 =>
   rw [oO o] at h;injection h with h1 h2;simp only [Yv];omega
  | ok x r2 =>
   rw [jg o] at h
   cases g:aQ f r2 (i+1) with
   | no e2 j2 =>
    rw [g] at h;injection h with h1 h2;subst h1 h2;have:=ih g;simp only [Yv];omega
   | ok l=>rw [g] at h;cases h
   | tail=>rw [g] at h;cases h
theorem L9 {out:List UInt8} (h:gG f l i out=.bad e j):j<i+f.length:=by
 induction f generalizing l i out with
 | nil=>cases l <;> cases h
 | cons c f ih =>
  cases l with
  | nil=>cases h
  | cons x l =>
   simp only [gG] at h;simp only [Yv]
   split at h
   ·split at h
    ·split at h
     ·cases h
     ·have:=ih h
      omega
    ·injection h with h1 h2
     omega
   ·injection h with h1 h2
    omega
def Ur (ps:List (List UInt8)):Prop:=ps.length<=3/\∀q∈ps,q.length<=1000
theorem yU (n:Int):(word n).data.toList.length<=1000:=Yg (xB n) Z2
theorem Ew (o:f.length<=13) (h:jw (aQ f r 0)=some (ps,k)):ps.length<=1/\∀q∈ps,q.length<=1000:=by
 cases g:aQ f r 0 with
 | ok l=>rw [g] at h;cases h
 | no e j =>
  rw [g] at h;cases h
  have:=ET g;refine ⟨Z3,fun q hq=>?_⟩;simp only [Ym] at hq;subst hq;exact IU j Z0
 | tail =>
  rw [g] at h;cases h
  exact ⟨Z3,fun q hq=>YT⟩
theorem mo {p:List UInt8} (h:fu (dC p)=some (ps,k)):Ur ps:=by
 have u:Ur [kZ]:=⟨Z3,fun q hq=>YT⟩
 cases p with
 | nil =>
  cases h
  exact u
 | cons c r =>
  by_cases o:32768<(c :: r).length
  ·rw [oP o] at h
   cases h
   exact u
  ·cases j:forms c.toNat with
   | nil =>
    rw [oF o j] at h;cases h
    exact u
   | cons f fs =>
    cases A:dL (forms c.toNat) r with
    | some l =>
     rw [qN Z0 A] at h;cases h
    | none =>
     rw [q8 o j A] at h;have g:=(je (n:=(c.toNat:Nat)) (f:=f) (by rw [j];simp)).1
     cases v:jw (aQ f.data.toList r 0) with
     | none =>
      simp only [fu,v] at h;cases h
     | some x =>
      obtain ⟨C,B⟩:=x;have z:=Ew (f:=f.data.toList) g v;simp only [fu,v] at h;cases h
      refine ⟨by have:=z.1;simp only [Yv];omega,fun q hq=>?_⟩;rcases Yz.1 hq with rfl | hq
      ·exact yU _
      ·exact z.2 q hq
theorem rY (h:ic n (encS n l)=some (ps,k)):Ur ps:=by
 have hw:=yU n;unfold encS at h
 cases o:(fit n l.length).2 with
 | false =>
  rw [o,Y5 Z2] at h;cases h
  exact ⟨Z3,fun q hq=>YT⟩
 | true =>
  rw [Y6 o] at h;have p:=(je (oM o).1).1
  cases g:gG (fit n l.length).1.data.toList l 0 [UInt8.ofNat n.toNat] with
  | ok s=>rw [g] at h;cases h
  | none=>rw [g] at h;cases h;exact ⟨Z3,fun q hq=>YT⟩
  | long =>
   rw [g] at h;cases h
   exact ⟨Z3,fun q hq=>by simp only [Ym] at hq;subst hq;exact hw⟩
  | bad e j =>
   rw [g] at h;cases h
   have r:=L9 g;have u:(fit n l.length).1.data.toList.length=(fit n l.length).1.size:=rfl;refine ⟨Z3,fun q hq=>?_⟩;simp only [Yz,List.mem_nil_iff,or_false] at hq;rcases hq with rfl | rfl
   ·exact hw
   ·exact IU j Z0
end Go.Proofs.YtnhekaepgpbijaaGreatDoor

namespace Go.Proofs.YtnhekaepgpbijaaGreatDoor
open Go.Proofs.Tryz
end Go.Proofs.YtnhekaepgpbijaaGreatDoor

namespace Go.Proofs.YtnhekaepgpbijaaGreatDoor
open Go.Proofs.Tryz Go.RowKit Go.ChangeShapes Go.WideShapes Go.Sort
theorem Dn {W:World} {B g size n:Nat} {e t:TypeId} {v:Value} {o:List Value} {cs:Array Value} (h:W.ownsRow B e size v n o) (p:Blk W g t cs) (j:e≠t) (c:Nat) (u:Value):(W.setCell ⟨g,c,none⟩ u).ownsRow B e size v n o :=
 h.kept (ah (az W (some g)) (.inl rfl) u) (.inr (bf h p j))
structure Wp (lo:Nat) (mb:Nat) (num:Int) (A:Option Addr) (n c:Nat) (zs:List (Fld × Value)) (w:World):Prop where
 len:zs.length=n
 m:Blk w mb 55 #[.int .i64 num,.slice A n c]
 own:w.ownsRow lo 60 4 (.slice A n c) n (fcs zs)
end Go.Proofs.YtnhekaepgpbijaaGreatDoor

namespace Go.Proofs.YtnhekaepgpbijaaGreatDoor
open Go.Proofs.Tryz Go.RowKit
variable {c g i k lo n:Nat} {w w':World} {o:List Value} {ss:List (List ByteArray)} {j v v0 v1 v2 v3:Value} {s:List ByteArray} {p:Addr} {A:Option Addr}
theorem Ng:(prog.info? 9).map (fun i=>(i.zero,i.size,i.bytes))=some (some (.string ByteArray.empty),1,16):=Z1
def jX (lo:Nat) (w:World) (vs:List Value) (ss:List (List ByteArray)):Prop :=
 vs.length=ss.length/\∀(i:Nat) (v:Value) (s:List ByteArray),vs[i]?=some v->ss[i]?=some s->Strs lo w v s/\s.length<=9223372036854775807
theorem jX.below (h:jX lo w o ss) (p:Below w.heap.size w w'):jX lo w' o ss :=
 ⟨h.1,fun i v s g j=>⟨(h.2 i v s g j).1.below p,(h.2 i v s g j).2⟩⟩
theorem jX.alloc {g:List Value} (h:jX lo w g ss) (o:Obj):jX lo (w.alloc o) g ss:=h.below ((Below.refl _ _).alloc (Y2 _) o)
theorem jX.at_ {g:List Value} (h:jX lo w g ss) (hi:i<ss.length):∃v,g[i]?=some v/\Strs lo w v ss[i]/\ss[i].length<=9223372036854775807:=by
 have j:i<g.length:=by rw [h.1];exact hi
 exact ⟨g[i],Y1 j,h.2 i _ _ (Y1 j) (Y1 hi)⟩
def Ap (s:List ByteArray):Bool:=decide (s.length<=20) && s.all fun x=>decide (x.size<=100)
def ut (ss:List (List ByteArray)):Bool:=ss.all Ap

def nJ (v:Value):Prop:=∃A n c,v=.slice A n c
theorem Strs.isSl (h:Strs lo w v s):nJ v:=let ⟨A,c,e,_⟩:=h;⟨A,_,c,e⟩
theorem jX.isSl {j:List Value} (h:jX lo w j ss) (g:j[i]?=some v):nJ v:=by
 have o:i<ss.length:=by rw [<-h.1];exact (Yx.1 g).1
 exact (h.2 i v _ g (Y1 o)).1.isSl
theorem jX.sl8 {g o p:Value} (h:jX lo w [v0,v1,v2,v3,g,j,o,p] ss):nJ v0/\nJ v1/\nJ v2/\nJ v3/\nJ g/\nJ j/\nJ o/\nJ p :=
 ⟨h.isSl (i:=0) rfl,h.isSl (i:=1) rfl,h.isSl (i:=2) rfl,h.isSl (i:=3) rfl,h.isSl (i:=4) rfl,h.isSl (i:=5) rfl,h.isSl (i:=6) rfl,h.isSl (i:=7) rfl⟩
theorem vS {g h o:Value} (w:World) (hs:nJ v0/\nJ v1/\nJ v2/\nJ v3/\nJ g/\nJ h/\nJ j/\nJ o) :
  Calls prog 137 #[.agg #[v0,v1,v2,v3,g,h,j,o]] w fun e w'=>e=.returned (.slice (some ⟨w.heap.size+1,0,none⟩) 8 8)/\Blk w' (w.heap.size+1) 22 #[v0,v1,v2,v3,g,h,j,o]/\Below w.heap.size w w':=by
 obtain ⟨⟨A0,n0,c0,rfl⟩,⟨A1,n1,c1,rfl⟩,⟨A2,n2,c2,rfl⟩,⟨A3,n3,c3,rfl⟩,⟨A4,n4,c4,rfl⟩,⟨A5,n5,c5,rfl⟩,⟨A6,n6,c6,rfl⟩,⟨A7,n7,c7,rfl⟩⟩:=hs;go_enter func137,ntmps137;go_wp2;go_ret;refine ⟨rfl,?_,Z4⟩;have:=Blk.new (w.alloc (.cells #[.slice A0 n0 c0,.slice A1 n1 c1,.slice A2 n2 c2,.slice A3 n3 c3,.slice A4 n4 c4,.slice A5 n5 c5,.slice A6 n6 c6,.slice A7 n7 c7] 24)) 22 #[.slice A0 n0 c0,.slice A1 n1 c1,.slice A2 n2 c2,.slice A3 n3 c3,.slice A4 n4 c4,.slice A5 n5 c5,.slice A6 n6 c6,.slice A7 n7 c7];rwa [World.size_alloc] at this
theorem Rx (g:s.length<=20) (h:∀(j:Nat) (x:ByteArray),s[j]?=some x->x.size<=100):Ap s=true:=by
 unfold Ap;simp only [YF,Yw,List.all_eq_true];refine ⟨g,fun x p=>?_⟩;obtain ⟨j,o,rfl⟩:=YM p;exact h j _ (Y1 o)
theorem I9 (g:¬ s.length<=20):Ap s=false:=by
 unfold Ap;simp [g]
theorem Pi {j:Nat} (g:j<s.length) (h1:¬ s[j].size<=100):Ap s=false:=by
 unfold Ap;rw [Bool.and_eq_false_iff];right;rw [List.all_eq_false];exact ⟨_,Yf g,XQ⟩
theorem Br (hi:i<ss.length) (h:Ap ss[i]=false):ut ss=false:=by
 unfold ut;rw [List.all_eq_false];exact ⟨_,Yf hi,by simp [h]⟩
theorem I7 {Y Z v6 v7:Value} (h:jX lo w [v0,v1,v2,v3,Y,Z,v6,v7] ss) :
  Calls prog 80 #[.agg #[v0,v1,v2,v3,Y,Z,v6,v7]] w fun e w'=>e=.returned (.bool (ut ss))/\Below w.heap.size w w':=by
 have hl:ss.length=8:=h.1.symm;have S:=h.sl8;go_enter func80,ntmps80;go_wp2_with (go_at_call 137;refine (vS _ S).mono ?_;rintro e w1 ⟨rfl,O,U⟩);have r:Below w.heap.size w w1:=ku ((Below.refl _ _).alloc (Y2 _) _) U;have h1:=h.below r;have N:=O.lt;have hz:=r.size;clear U h;rw [World.size_alloc] at O N;generalize w.heap.size+1+1=g at O N ⊢
 go_loop [4] (fun i=>∃k:Nat,k<=8/\i=.int .i64 k/\∀(j:Nat) (s:List ByteArray),j<k->ss[j]?=some s->Ap s=true) (fun i=>8 - (intOf i).toNat)
 case atStart=>exact ⟨0,Z0,rfl,Z3⟩
 case round =>
  obtain ⟨k,ab,rfl,B⟩:=hrel;have z:=hide B;clear B
  by_cases ac:k<8
  ·obtain ⟨v,X,⟨A,c,rfl,hr⟩,hm⟩:=h1.at_ (i:=k) Z0
   have o:k<ss.length:=Z0;have Q:w1.cell? ⟨g,k,none⟩=some (.slice A (ss[k]'o).length c):=by rw [O.cell k];simpa using X
   clear X
   by_cases I:(ss[k]'o).length<=20
   ·have J:((ss[k]'o).length:Int)<=20:=by omega
    have L:(k:Int)<8:=Z0;go_wp2
    go_loop [5] (fun i=>∃j:Nat,j<=(ss[k]'o).length/\i=.int .i64 j/\∀(p:Nat) (x:ByteArray),p<j->(ss[k]'o)[p]?=some x->x.size<=100) (fun i=>(ss[k]'o).length - (intOf i).toNat)
    case atStart=>exact ⟨0,Z0,rfl,Z3⟩
    case round =>
     obtain ⟨j,V,rfl,K⟩:=hrel;have F:=hide K;clear K
     by_cases u:j<(ss[k]'o).length
     ·obtain ⟨ad,rfl,_,aa⟩:=hr.str u
      have R:(j:Int)<(ss[k]'o).length:=Z0
      by_cases P:((ss[k]'o)[j]).size<=100
      ·have T:(((ss[k]'o)[j]).size:Int)<=100:=by omega
       have Hx:=hide P;clear P;go_wp2;go_round
       case rel =>
        refine ⟨j+1,u,Zr,fun p x hp q=>?_⟩;rcases Nat.lt_or_ge p j with G | G
        ·exact F.out p x G q
        ·obtain rfl:p=j:=by omega
         rw [Y1 u] at q;cases q
         exact Hx.out
       case measure=>simp [intOf];omega
      ·have C:=hide (Br o (Pi u P))
       have T:¬ (((ss[k]'o)[j]).size:Int)<=100:=Z0;clear P;go_wp2;go_ret;exact ⟨gD C.out.symm,r⟩
     ·have C:=hide (Rx I fun p x q=>F.out p x (by have:=(Yx.1 q).1;omega) q)
      have R:¬ (j:Int)<(ss[k]'o).length:=Z0;go_wp2;go_round
      case rel =>
       refine ⟨k+1,Z0,Zr,fun p s hp D=>?_⟩;rcases Nat.lt_or_ge p k with G | G
       ·exact z.out p s G D
       ·obtain rfl:p=k:=by omega
        rw [Y1 o] at D;cases D
        exact C.out
      case measure=>simp [intOf];omega
   ·have C:=hide (Br o (I9 I))
    have J:¬ ((ss[k]'o).length:Int)<=20:=Z0;have L:(k:Int)<8:=Z0;go_wp2;go_ret;exact ⟨gD C.out.symm,r⟩
  ·have C:=hide (show ut ss=true from List.all_eq_true.2 fun s hs=>by
    obtain ⟨j,V,rfl⟩:=YM hs
    exact z.out j _ Z0 (Y1 V))
   have L:¬ (k:Int)<8:=Z0;go_wp2;go_ret;exact ⟨gD C.out.symm,r⟩
theorem Strs.set (h:Strs lo w v s) (hp:w.cell? p=some (.slice A n c)) (u:Value):Strs lo (w.setCell p u) v s:=by
 obtain ⟨B,d,rfl,F,I⟩:=h;refine ⟨B,d,rfl,F,fun G=>?_⟩;obtain ⟨q,e,z,C,D⟩:=I G;refine ⟨q,e,z,by simpa [World.setCell] using C,fun j x g=>?_⟩;have o:=D j x g;rw [World.cell?_setCell_other w p _ u ?_]
 ·exact o
 ·intro r
  rw [<-r,hp] at o;rw [Yt] at g
  cases hs:s[j]? with
  | none=>rw [hs] at g;cases g
  | some y=>rw [hs] at g;simp at g;rw [<-g] at o;cases o
theorem jX.set (h:jX lo w o ss) (hp:w.cell? p=some (.slice A n c)) (u:Value):jX lo (w.setCell p u) o ss :=
 ⟨h.1,fun i v s g j=>⟨(h.2 i v s g j).1.set hp u,(h.2 i v s g j).2⟩⟩
theorem jX.put {p:List Value} (h:jX lo w p ss) (o:k<ss.length) (q:Strs lo w v ss[k]):jX lo w (p.set k v) ss:=by
 refine ⟨by rw [List.length_set];exact h.1,fun i u s g j=>?_⟩
 by_cases hi:i=k
 ·subst hi
  rw [List.getElem?_set_self (by rw [h.1];exact o)] at g;rw [Y1 o] at j;cases g
  cases j
  exact ⟨q,((h.at_ o).choose_spec).2.2⟩
 ·rw [List.getElem?_set_ne (Ne.symm hi)] at g
  exact h.2 i u s g j
def wZ (w:World) (g:Nat) (ss:List (List ByteArray)):Prop:=∃vs:List Value,Blk w g 22 vs.toArray/\jX 0 w vs ss
theorem wZ.below (h:wZ w g ss) (j:Below w.heap.size w w'):wZ w' g ss :=
 let ⟨vs,h1,h2⟩:=h;⟨vs,h1.below j h1.lt,h2.below j⟩
theorem wZ.lt (h:wZ w g ss):g<w.heap.size:=let ⟨_,h1,_⟩:=h;h1.lt
theorem wZ.drewN (h:wZ w g ss) (n:Nat):wZ (w.drewN n) g ss:=h
theorem wZ.at_ (h:wZ w g ss) (p:k<ss.length):∃A c,w.cell? ⟨g,k,none⟩=some (.slice A ss[k].length c)/\Strs 0 w (.slice A ss[k].length c) ss[k]/\ss[k].length<=9223372036854775807:=by
 obtain ⟨z,j,o⟩:=h;obtain ⟨v,u,⟨A,c,rfl,r⟩,q⟩:=o.at_ p;exact ⟨A,c,by rw [j.cell k];simpa using u,⟨A,c,rfl,r⟩,q⟩
end Go.Proofs.YtnhekaepgpbijaaGreatDoor

namespace Go.Proofs.YtnhekaepgpbijaaGreatDoor
open Go.Proofs.Tryz Go.RowKit Go.ChangeShapes Go.WideShapes Go.Sort
variable {lo:Nat} {v:Value} {w:World} {ls:List (List UInt8)}
theorem zz {ss:List ByteArray} (h:Strs lo w v ss) (hb:ss.length<=8796093022207) :
  Calls prog 143 #[v] w fun e w'=>∃v',e=.returned v'/\w'.ownsRow w.heap.size 9 1 v' ss.length (ss.map Value.string)/\Below w.heap.size w w':=by
 obtain ⟨A,c,rfl,hr⟩:=h;obtain ⟨i0,hi,hz0,hz1,hz2⟩:=info_parts Ng;have q:∀(w:World) (a:Option Addr) (n c n' c':Nat),(binOp .eql 22 (.slice a n c) (.slice none n' c')).run prog w=.ok (.bool a.isNone) w:=fun w a n c n' c'=>Lib.run_eql_slice_nil w _ _ a n c n' c' underlying22
 cases A with
 | none =>
  have h0:ss=[]:=by
   rcases Nat.eq_zero_or_pos ss.length with h0 | h0
   ·exact Yc h0
   ·obtain ⟨ad,h,_⟩:=hr.2 h0
    cases h
  subst h0;go_enter func143,ntmps143;exact zzc58
 | some ad =>
  have hr':=(hr.alloc (.cells #[] 9)).reads
  have hone:∀u∈ss.map Value.string,u.oneCell'=true:=by
   intro u hu;obtain ⟨s,_,rfl⟩:=List.mem_map.1 hu;rfl
  have Hone:=hide hone;have Hr:=hide hr';clear hone hr' hr;go_enter func143,ntmps143;go_wp2_with (at_builtin;refine aB _ rfl (.tmp 5) (.tmp 6) _ rfl w.heap.size 9 i0 (.string ByteArray.empty) 1 16 underlying22 hi hz0 hz1 hz2 rfl Z2 _ 0 [] rfl (World.ownsRow_made w #[] 0 (Y2 _) (Yb _) Z3) (w.heap.size+1) (some ad) ss.length c (ss.map Value.string) rfl X5 Hone.out Ze Z0 Z3 ?_;intro v' w1 hown hgrow _);exact zz570
def bss (l:List (List UInt8)):List ByteArray:=l.map bs
theorem bN.strs (h:bN lo w v ls):Strs lo w v (bss ls):=by
 obtain ⟨A,c,rfl,_,g⟩:=h;exact ⟨A,c,by rw [bss,Yd],by rw [bss,Yd];exact g⟩
theorem bN.setSl (h:bN lo w v ls) {p:Addr} {A:Option Addr} {n c:Nat} (hp:w.cell? p=some (.slice A n c)) (u:Value):bN lo (w.setCell p u) v ls:=by
 have g:=h.strs.set hp u;obtain ⟨B,d,rfl,j,_⟩:=h;exact Al g j
theorem bN.belowW {w':World} (h:bN lo w v ls) (j:Below w.heap.size w w'):bN lo w' v ls:=by
 obtain ⟨A,c,e,o,g⟩:=h;exact ⟨A,c,e,o,g.below j⟩
structure PL8 (w:World) (g:Nat) (ls:List (List (List UInt8))) (k:Nat) (wr:World):Prop where
 bel:Below w.heap.size w wr
 row:∃vs:List Value,Blk wr g 22 vs.toArray/\jX 0 wr vs (ls.map bss)/\(0<k->∃v0 l0 mid,vs[0]?=some v0/\ls[0]?=some l0/\wr.ownsRow (g+1) 9 1 v0 l0.length ((l0.map bs).map Value.string)/\(∀b,v0.ownBlock=some b->b<mid)/\g<mid/\mid<=wr.heap.size /\
  ∀i v l,0<i->i<k->vs[i]?=some v->ls[i]?=some l->bN mid wr v l)
theorem PL8.step {wr w2:World} {g k:Nat} {ls:List (List (List UInt8))} (H:PL8 w g ls k wr) (P:k<ls.length) {v':Value} (D:w2.ownsRow wr.heap.size 9 1 v' (bss ls[k]).length ((bss ls[k]).map Value.string)) (h:Below wr.heap.size wr w2) (hg:w.heap.size<=g):PL8 w g ls (k+1) (w2.setCell ⟨g,k,none⟩ v'):=by
 obtain ⟨Y,L,J,h0⟩:=H.row;have j:=L.below h L.lt;have K:=J.below h;have q:k<(ls.map bss).length:=by rw [Yd];exact P
 have N:(ls.map bss)[k]=bss ls[k]:=List.getElem_map _;obtain ⟨v,hv,U,hm⟩:=J.at_ q;obtain ⟨A,c,rfl,hr⟩:=U;have o:w2.cell? ⟨g,k,none⟩=some (.slice A (ls.map bss)[k].length c):=by rw [j.cell k];simpa using hv
 have X:bN wr.heap.size w2 v' ls[k]:=by
  obtain ⟨A',c',rfl⟩:=ed D;have Q:(bss ls[k]).length=ls[k].length:=by rw [bss,Yd]
  rw [Q] at D ⊢;exact ou D rfl
 have B:k<Y.length:=by rw [J.1];exact q
 have r:=L.lt;refine ⟨(H.bel.trans (h.mono H.bel.size)).setCell (p:=⟨g,k,none⟩) hg v',Y.set k v',?_,?_,fun _=>?_⟩
 ·have:=j.set_ k v'
  simpa using this
 ·refine (K.set o v').put q ?_
  rw [N];exact (X.mono (Yb _)).strs.set o v'
 ·by_cases z:k=0
  ·subst z
   refine ⟨v',ls[0],w2.heap.size,List.getElem?_set_self B,Y1 P,?_,fun b hb=>(D.lt b hb).2,Yi r h.size,by simp [World.setCell],fun i v l V h2=>Z0⟩;have F:=Dn (D.mono (Nat.succ_le_of_lt r)) j Z2 0 v';have Q:(bss ls[0]).length=ls[0].length:=by rw [bss,Yd]
   rw [Q] at F;exact F
  ·obtain ⟨v0,l0,mid,Z,e1,S,R,O,C,T⟩:=h0 Z0
   refine ⟨v0,l0,mid,by rw [List.getElem?_set_ne z];exact Z,e1,Dn (mJ S h) j Z2 k v',R,O,by simpa [World.setCell] using Yg C h.size,fun i v l V h2 G I=>?_⟩
   by_cases u:i=k
   ·subst u
    rw [List.getElem?_set_self B] at G;rw [Y1 P] at I;cases G
    cases I
    exact (X.mono C).setSl o _
   ·rw [List.getElem?_set_ne (Ne.symm u)] at G
    exact ((T i v l V Z0 G I).belowW h).setSl o _
theorem I5 {v0 v1 v2 v3 U V X Y:Value} {ls:List (List (List UInt8))} (h:jX 0 w [v0,v1,v2,v3,U,V,X,Y] (ls.map bss)) (S:∀l∈ls,l.length<=1000000) :
  Calls prog 142 #[.agg #[v0,v1,v2,v3,U,V,X,Y]] w fun e w'=>∃g,e=.returned (.slice (some ⟨g,0,none⟩) 8 8)/\w.heap.size<=g/\PL8 w g ls 8 w':=by
 have hl:ls.length=8:=by have:=h.1;rw [Yd] at this;exact this.symm
 obtain ⟨⟨A0,n0,c0,rfl⟩,⟨A1,n1,c1,rfl⟩,⟨A2,n2,c2,rfl⟩,⟨A3,n3,c3,rfl⟩,⟨A4,n4,c4,rfl⟩,⟨A5,n5,c5,rfl⟩,⟨A6,n6,c6,rfl⟩,⟨A7,n7,c7,rfl⟩⟩:=h.sl8;have Hb:=hide S;clear S;have u:=Blk.new (w.alloc (.cells #[.slice A0 n0 c0,.slice A1 n1 c1,.slice A2 n2 c2,.slice A3 n3 c3,.slice A4 n4 c4,.slice A5 n5 c5,.slice A6 n6 c6,.slice A7 n7 c7] 24)) 22 #[.slice A0 n0 c0,.slice A1 n1 c1,.slice A2 n2 c2,.slice A3 n3 c3,.slice A4 n4 c4,.slice A5 n5 c5,.slice A6 n6 c6,.slice A7 n7 c7];have q:Below w.heap.size w ((w.alloc (.cells #[.slice A0 n0 c0,.slice A1 n1 c1,.slice A2 n2 c2,.slice A3 n3 c3,.slice A4 n4 c4,.slice A5 n5 c5,.slice A6 n6 c6,.slice A7 n7 c7] 24)).alloc (.cells #[.slice A0 n0 c0,.slice A1 n1 c1,.slice A2 n2 c2,.slice A3 n3 c3,.slice A4 n4 c4,.slice A5 n5 c5,.slice A6 n6 c6,.slice A7 n7 c7] 22)):=Z4;rw [World.size_alloc] at u;have I:=hide (show PL8 w (w.heap.size+1) ls 0 _ from ⟨q,_,u,(h.alloc (.cells #[.slice A0 n0 c0,.slice A1 n1 c1,.slice A2 n2 c2,.slice A3 n3 c3,.slice A4 n4 c4,.slice A5 n5 c5,.slice A6 n6 c6,.slice A7 n7 c7] 24)).alloc (.cells #[.slice A0 n0 c0,.slice A1 n1 c1,.slice A2 n2 c2,.slice A3 n3 c3,.slice A4 n4 c4,.slice A5 n5 c5,.slice A6 n6 c6,.slice A7 n7 c7] 22),fun h=>absurd h Z0⟩);clear u q h;go_enter func142,ntmps142;go_wp2
 go_loopw [24,4] (fun i _ wr=>∃k:Nat,k<=8/\i=.int .i64 k/\Hid (PL8 w (w.heap.size+1) ls k wr)) (fun i _ _=>8 - (intOf i).toNat)
 case atStart=>exact ⟨0,Z0,rfl,I⟩
 case round =>
  obtain ⟨k,ac,rfl,G⟩:=hrel
  by_cases ad:k<8
  ·have o:k<ls.length:=by omega
   have N:k<(ls.map bss).length:=by rw [Yd];exact o
   have B:(ls.map bss)[k]=bss ls[k]:=List.getElem_map _;obtain ⟨vs,z,R,_⟩:=G.out.row;obtain ⟨A,c,K,v,hm⟩:=wZ.at_ ⟨vs,z,R⟩ N;have r:(bss ls[k]).length<=8796093022207:=by rw [bss,Yd];have:=Hb.out (ls[k]'o) (Yf o);omega
   rw [B] at K v;have L:(k:Int)<8:=Z0;have C:=z.lt;have ab:=z.frozen k;have P:=hide (zz v r);have Q:=hide (fun (w2:World) (v':Value) (F:w2.ownsRow wr.heap.size 9 1 v' (bss ls[k]).length ((bss ls[k]).map Value.string)) (j:Below wr.heap.size wr w2)=>G.out.step o F j (YB _));have HB:=hide z;generalize O:(bss ls[k]).length=nL at K P Q;clear R v B r O z hm;go_wp2_with (go_at_call 143;refine P.out.mono ?_;rintro e w2 ⟨v',rfl,F,j⟩;obtain ⟨A2,c2,rfl⟩:=ed F;have J:=HB.out.below j C;have T:=J.frozen k;have aa:=(j.cell (p:=⟨w.heap.size+1,k,none⟩) C).trans K;have Z:=hide (Q.out w2 _ F j));go_roundw
   case rel=>exact ⟨k+1,Z0,Zr,Z⟩
   case measure=>simp [intOf];omega
  ·have L:¬ (k:Int)<8:=by omega
   have D:k=8:=Z0;subst D;go_wp2;go_ret;exact ⟨_,rfl,YB _,G.out⟩
end Go.Proofs.YtnhekaepgpbijaaGreatDoor
