/- Several of my texts in one: AuY, AuZ, AuX, AuL, AuLt, AuAw, AuK5, AuAp, AuTk, AuKy. -/
import Derived.Test.YtnhekaepgpbijaaGreatDoorKAli
import Derived.Test.YtnhekaepgpbijaaGreatDoorKAuBG
import Derived.Test.YtnhekaepgpbijaaGreatDoorKAuKG
import Derived.Test.YtnhekaepgpbijaaGreatDoorKKxPGG
import Derived.Test.YtnhekaepgpbijaaGreatDoorKAsG
set_option linter.unusedVariables false
set_option linter.unusedSimpArgs false
set_option maxHeartbeats 40000000
set_option maxRecDepth 100000
namespace Go.Proofs.YtnhekaepgpbijaaGreatDoor
open Go.Proofs.Tryz Go.RowKit Go.ChangeShapes Go.WideShapes Go.Sort
variable {c:CfP} {no:Bool} {α:Type} {s sid:ByteArray} {p_:Prop} {D:Array Value} {V o w':World} {p:List UInt8} {b r:Nat} {v:Value} {l:List Fld}
def jo (c:CfP) (no:Bool):il:=match c.err with
 | some (ps,k)=>some (bZ :: ps,k)
 | none=>if c.sv=true/\no=false then none else some ([bZ],1)
theorem IL (c:CfP) (no:Bool):lW 20 (jo c no):=fun ps k h=>by
 unfold jo at h;have o:lW 3 c.err:=GU _ _ _ _ _ _ _ _ _ _ _ _ _ _;rcases fq c.err with he | ⟨⟨r,z⟩,he⟩
 ·rw [he] at h
  simp only at h
  split at h
  ·cases h
  ·cases h
   exact ⟨Z2,Z2,fun p hp=>Xm⟩
 ·rw [he] at h
  cases h
  obtain ⟨g,q,j⟩:=o _ _ he;refine ⟨g,XG,fun p hp=>?_⟩;rcases Yz.1 hp with rfl | hp
  ·decide
  ·exact j p hp
theorem TN (h:jo c no=none):c.err=none/\c.sv=true/\no=false:=by
 unfold jo at h;rcases fq c.err with he | ⟨⟨j,z⟩,he⟩
 ·rw [he] at h
  simp only at h
  split at h
  ·rename_i g
   exact ⟨he,g⟩
  ·cases h
 ·rw [he] at h
  cases h
theorem Nf {ps:List (List UInt8)} {k:Int} (h:c.err=some (ps,k)):jo c no=some (bZ :: ps,k):=by unfold jo;rw [h]
theorem Nh (h:c.err=none) (p:c.sv=false\/no=true):jo c no=some ([bZ],1):=by
 unfold jo;rw [h];simp only;rw [Y5];rintro ⟨j,o⟩;rcases p with g | g
 ·rw [g] at j;cases j
 ·rw [g] at o;cases o
theorem Ez (h:c.err=none) (g:c.sv=true) (j:no=false):jo c no=none:=by
 unfold jo;rw [h];simp only;rw [Y6 ⟨g,j⟩]
theorem bG {l:List α} {n:Nat} (h:l.length=n+1):∃x r,l=x :: r/\r.length=n:=by
 cases l with
 | nil=>cases h
 | cons x r=>exact ⟨x,r,rfl,Xx⟩
theorem UI {l:List α} (h:l.length=23):∃V a1 a2 X Y Z a6 a7 a8 a9 g j o p q r u v z A B C D,l=[V,a1,a2,X,Y,Z,a6,a7,a8,a9,g,j,o,p,q,r,u,v,z,A,B,C,D]:=by
 obtain ⟨V,l0,rfl,h0⟩:=bG h;obtain ⟨a1,l1,rfl,h1⟩:=bG h0;obtain ⟨a2,l2,rfl,h2⟩:=bG h1;obtain ⟨X,l3,rfl,h3⟩:=bG h2;obtain ⟨Y,l4,rfl,h4⟩:=bG h3;obtain ⟨Z,l5,rfl,h5⟩:=bG h4;obtain ⟨a6,l6,rfl,h6⟩:=bG h5;obtain ⟨a7,l7,rfl,h7⟩:=bG h6;obtain ⟨a8,l8,rfl,h8⟩:=bG h7;obtain ⟨a9,l9,rfl,h9⟩:=bG h8;obtain ⟨g,aa,rfl,F⟩:=bG h9;obtain ⟨j,ab,rfl,G⟩:=bG F;obtain ⟨o,ac,rfl,I⟩:=bG G;obtain ⟨p,ad,rfl,J⟩:=bG I;obtain ⟨q,af,rfl,K⟩:=bG J;obtain ⟨r,am,rfl,L⟩:=bG K;obtain ⟨u,an,rfl,N⟩:=bG L;obtain ⟨v,ao,rfl,O⟩:=bG N;obtain ⟨z,ap,rfl,P⟩:=bG O;obtain ⟨A,aq,rfl,Q⟩:=bG P;obtain ⟨B,av,rfl,R⟩:=bG Q;obtain ⟨C,aw,rfl,S⟩:=bG R;obtain ⟨D,U,rfl,T⟩:=bG S;obtain rfl:U=[]:=Yc T;exact ⟨_,_,_,_,_,_,_,_,_,_,_,_,_,_,_,_,_,_,_,_,_,_,_,rfl⟩
theorem K9 (o:Oper) (q:o.op=.build 87 #[(0,.tmp 9),(1,.tmp 10)]) (h:Operand->Value) {g:Array Value} (h9:h (.tmp 9)=.agg g) (L:h (.tmp 10)=.string sid) (j:g.toList.length=23) (w:World) :
  (execOp h o).run prog w=.ok (.value (.agg (g++#[Value.string sid,.int .i64 (0:Nat),.int .i64 (0:Nat)]))) w:=by
 obtain ⟨d,Y,t,p,V,X⟩:=o;simp only at q;subst q;obtain ⟨l⟩:=g;obtain ⟨N,a1,a2,O,P,Q,R,S,T,U,r,u,v,z,A,B,C,D,F,G,I,J,K,e⟩:=UI (l:=l) j;subst e;clear j;go_simp
section
variable {w : World}
def RNw (c:CfP) (no:Bool) (cv:Array Value) (sid:ByteArray) (w:World) (e:Ending) (w':World):Prop :=
 ∃b y,e=.returned (.tuple #[.pointer (some ⟨b,0,none⟩),.agg #[.int .i64 (qx (jo c no)),.string y]])/\y=bs (uB (jo c no))/\RSv w' b cv sid ⟨0,0⟩/\w.heap.size<=b/\Below w.heap.size w w'
theorem zze52 (h_:p_:=by
 clear HE HFi;go_wp2_with fail;refine (HI0.out _).mono ?_;rintro e w3 ⟨rfl,hb3⟩;have hR3:=HB2.out.2.1.below hb3 HB2.out.2.1.lt;have hS3:=HB2.out.2.2.below hb3;have z0:=hR3.cell 0;have z1:=hR3.cell 1;have fz0:=hR3.frozen 0;have fz1:=hR3.frozen 1;simp at z0 z1;have HB3:=hide (Y4 (HB2.out.1.trans (hb3.mono HB2.out.1.size)) (Y4 hR3 hS3));go_wp2_with fail;obtain ⟨hb9,hR9,hS9⟩:=HB3.out;have hF:=dI hR9 (.int .i64 1) (.string yy);have q2:=hF.cell 0;have q3:=hF.cell 1;simp at q2 q3;refine bodyPost_ret (v:=.tuple #[.pointer (some ⟨bq,0,none⟩),.agg #[.int .i64 1,.string yy]]) (by simp [results,results58,go_sem,q2,q3]) rfl ?_;rw [E.out]
 exact ⟨bq,yy,rfl,Hyy.out.symm,(hS9.far (p:=⟨w.heap.size+1,0,none⟩) Hsz.out.1 _).far (p:=⟨w.heap.size+1,1,none⟩) Hsz.out.1 _,Hsz.out.2,(hb9.setCell (p:=⟨w.heap.size+1,0,none⟩) (YB _) _).setCell (p:=⟨w.heap.size+1,1,none⟩) (YB _) _⟩):p_:=h_
theorem Gb (c:CfP) (h:c.M w) (u0:IntKind.i64.wrap c.q0=c.q0) (u1:IntKind.i64.wrap c.q1=c.q1) (u2:IntKind.i64.wrap c.q2=c.q2) (I:CvP c D) (sid:ByteArray) (no:Bool) (ad:(sid.toList == ([]:List UInt8))=no) :
  Calls prog 58 #[.agg D,.string sid] w (RNw c no D sid w):=by
 obtain ⟨g,hW0⟩:∃g,g=(w.alloc (.cells D 30)).alloc (.cells #[.int .i64 0,.string ⟨#[]⟩] 45):=⟨_,rfl⟩
 have N:Below w.heap.size w g:=Zg;have Z:Blk g w.heap.size 30 D:=Zc;have L:Blk g (w.heap.size+1) 45 #[.int .i64 0,.string ⟨#[]⟩]:=Xr;have U:g.heap.size=w.heap.size+2:=ZO
 obtain ⟨O,z⟩:∃O,O=g.alloc (.cells (D++#[Value.string sid,.int .i64 (0:Nat),.int .i64 (0:Nat)]) 87):=⟨_,rfl⟩
 have G:Below g.heap.size g O:=by rw [z];exact aT _
 have R:=I.len
 have Q:RSv O g.heap.size D sid ⟨0,0⟩:=⟨by have:=R;simpa using this,by rw [z];exact Blk.new g _ _⟩
 have j:=Z.below G Z.lt;have P:=L.below G L.lt;have A:=N.trans (G.mono N.size);have X:=hide (c.rcheck (h.below A) u0 u1 u2);rw [I.val] at X;have p0:=(j.cell 0).trans I.p0;have Y:=hide (fun (ps:List (List UInt8)) (k:Int) (hs:(atL ps).length<=1000000) (V:World)=>Hw k ps hs V);have HFi:=hide (fun (V:World)=>dH V);have J:=hide (Y4 A (Y4 P (Y4 Q j)));have F:=fun ps k (he:c.err=some (ps,k))=>Nf (no:=no) he
 have q:=fun (he:c.err=none) h2=>Nh (no:=no) he h2
 have r:=fun (he:c.err=none) h2 h3=>Ez (no:=no) he h2 h3
 have K:lW 3 c.err:=GU _ _ _ _ _ _ _ _ _ _ _ _ _ _;have T:g.heap.size≠w.heap.size+1:=Z0;have S:w.heap.size<=g.heap.size:=Z0;unfold RNw;generalize jo c no=o at F q r ⊢;generalize ac:c.err=ce at X F q r K;generalize c.sv=sv at p0 q r;have HE:=hide (Y4 F (Y4 q (Y4 r K)));have Hsz:=hide (Y4 T S);clear N G L Q P A h I u0 u1 u2 ac F q r K U T S j;go_enter func58,ntmps58;go_upto_region 1 with fail;rw [<-hW0];clear hW0;refine wp_region_lit ?_;refine aR rfl (.tmp 2) rfl Z5 Z R ?_
 try simp only [Act.put,J0,JT,Y0]
 refine gJ (v:=.string sid) (w':=g) rfl Zn ?_
 try simp only [Act.put,J0,JT,Y0]
 refine gJ (v:=.agg (D++#[Value.string sid,.int .i64 (0:Nat),.int .i64 (0:Nat)])) (w':=g) rfl (K9 _ rfl _ Z5 Z5 R _) ?_
 try simp only [Act.put,J0,JT,Y0]
 generalize (D++#[Value.string sid,.int .i64 (0:Nat),.int .i64 (0:Nat)])=cs at z ⊢;refine gJ (v:=.pointer (some ⟨g.heap.size,0,none⟩)) (w':=O) rfl (by rw [z];go_simp) ?_
 try simp only [Act.put,J0,JT,Y0]
 clear z Z;generalize g.heap.size=bq at J Hsz ⊢;go_upto_region 2 with fail;have j:=J.out.2.2.2;refine wp_region_lit ?_;refine aR rfl (.tmp 2) rfl Z5 j R ?_
 try simp only [Act.put,J0,JT,Y0]
 refine gX (f:=88) rfl Zn X.out ?_;rintro e w2 ⟨rfl,B⟩;refine ⟨_,rfl,?_⟩
 try simp only [Act.put,J0,JT,Y0]
 have u:=J.out.2.1.below B J.out.2.1.lt;have ab:=J.out.2.2.1.below B;have x0:=aA B p0;have HB2:=hide (Y4 (J.out.1.trans (B.mono J.out.1.size)) (Y4 u ab));clear j R X B J p0;rcases ce with _ | ⟨ps,k⟩
 ·simp only [qx,uB]
  have z0:=u.cell 0;have z1:=u.cell 1;have fz0:=u.frozen 0;have fz1:=u.frozen 1;simp at z0 z1;have HI0:=hide (fun (V:World)=>Y.out [] 1 Z2 V);rw [show bs (atL ([]:List (List UInt8)))=⟨#[]⟩ from rfl] at HI0;have aa:=hide (show bs (atL [bZ])=bs (atL [bZ]) from rfl);generalize C:bs (atL [bZ])=yy at HI0;have Hyy:=hide C;clear Y aa C
  cases sv with
  | false =>
   have E:=hide (HE.out.2.1 rfl (.inl rfl));exact zze52
  | true =>
   cases no with
   | true =>
    have E:=hide (HE.out.2.1 rfl (.inr rfl));exact zze52
   | false =>
    have E:=hide (HE.out.2.2.1 rfl rfl rfl);clear HE HI0;go_wp2_with fail;refine (HFi.out _).mono ?_;rintro e w3 ⟨rfl,hb3⟩;have hR3:=HB2.out.2.1.below hb3 HB2.out.2.1.lt;have hS3:=HB2.out.2.2.below hb3;have z0:=hR3.cell 0;have z1:=hR3.cell 1;have fz0:=hR3.frozen 0;have fz1:=hR3.frozen 1;simp at z0 z1;have HB3:=hide (Y4 (HB2.out.1.trans (hb3.mono HB2.out.1.size)) (Y4 hR3 hS3));go_wp2_with fail;obtain ⟨hb9,hR9,hS9⟩:=HB3.out;have hF:=dI hR9 (.int .i64 0) (.string ⟨#[]⟩);have q2:=hF.cell 0;have q3:=hF.cell 1;simp at q2 q3;refine bodyPost_ret (v:=.tuple #[.pointer (some ⟨bq,0,none⟩),.agg #[.int .i64 0,.string ⟨#[]⟩]]) (by simp [results,results58,go_sem,q2,q3]) rfl ?_;rw [E.out];exact ⟨bq,⟨#[]⟩,rfl,rfl,(hS9.far (p:=⟨w.heap.size+1,0,none⟩) Hsz.out.1 _).far (p:=⟨w.heap.size+1,1,none⟩) Hsz.out.1 _,Hsz.out.2,(hb9.setCell (p:=⟨w.heap.size+1,0,none⟩) (YB _) _).setCell (p:=⟨w.heap.size+1,1,none⟩) (YB _) _⟩
 ·simp only [qx,uB]
  have E:=hide (HE.out.1 ps k rfl);have hk:=HE.out.2.2.2 ps k rfl;have ek:(k != 0)=true:=by rw [YG];exact hk.1
  have HI0:=hide (fun (V:World)=>Y.out ps k (Yg (uL hk.2.2) (Yg (Nat.mul_le_mul_right 1001 hk.2.1) Z2)) V);generalize bs (atL ps)=xx at HI0 ⊢;generalize C:bs (atL (bZ :: ps))=yy at HI0;have Hyy:=hide C;clear Y C HFi HE hk;go_wp2_with fail;refine (HI0.out _).mono ?_;rintro e w3 ⟨rfl,hb3⟩;have hR3:=HB2.out.2.1.below hb3 HB2.out.2.1.lt;have hS3:=HB2.out.2.2.below hb3;have z0:=hR3.cell 0;have z1:=hR3.cell 1;have fz0:=hR3.frozen 0;have fz1:=hR3.frozen 1;simp at z0 z1;have HB3:=hide (Y4 (HB2.out.1.trans (hb3.mono HB2.out.1.size)) (Y4 hR3 hS3));go_wp2_with fail;obtain ⟨hb9,hR9,hS9⟩:=HB3.out;have hF:=dI hR9 (.int .i64 k) (.string yy);have q2:=hF.cell 0;have q3:=hF.cell 1;simp at q2 q3;refine bodyPost_ret (v:=.tuple #[.pointer (some ⟨bq,0,none⟩),.agg #[.int .i64 k,.string yy]]) (by simp [results,results58,go_sem,q2,q3]) rfl ?_;rw [E.out];exact ⟨bq,yy,rfl,Hyy.out.symm,(hS9.far (p:=⟨w.heap.size+1,0,none⟩) Hsz.out.1 _).far (p:=⟨w.heap.size+1,1,none⟩) Hsz.out.1 _,Hsz.out.2,(hb9.setCell (p:=⟨w.heap.size+1,0,none⟩) (YB _) _).setCell (p:=⟨w.heap.size+1,1,none⟩) (YB _) _⟩
end
def jF (s:ByteArray):Option Tm:=if (s.toList == ([]:List UInt8))=true then none else mi (aM s)
theorem tV (hs:s.size<=300):aM s=some (.mk 1 0 0 s []):=by
 refine gV ?_;have h:s.data.toList.length=s.size:=aC s;unfold enc;simp only [encs,head,mid,List.append_nil,Ya,Yv,YL,bM];omega
theorem sQ (hs:s.size<=300):mi (aM s)=some (.mk 7 0 0 eB [.mk 1 0 0 s []]):=by
 rw [tV hs];refine gV ?_;have h:s.data.toList.length=s.size:=aC s;unfold enc;simp only [encs,enc,head,mid,List.append_nil,Ya,Yv,YL,bM];omega
theorem UQ (hs:s.size<=300):∀t,jF s=some t->t.k≠0:=fun t h=>by
 unfold jF at h
 split at h
 ·cases h
 ·rw [sQ hs] at h
  cases h
  show (7:Nat)≠0;decide
theorem L6 (hs:s.size<=300):bD (jF s):=by
 unfold jF
 split
 ·exact Fq
 ·exact EB (gH Z0)
theorem uS (hs:s.size<=300):(jF s=none)↔(s.toList == ([]:List UInt8))=true:=by
 unfold jF
 split
 ·rename_i h
  exact ⟨fun _=>h,fun _=>rfl⟩
 ·rename_i h
  rw [sQ hs];exact ⟨fun j=>(by cases j),fun j=>absurd j h⟩
def DoB (w0:World) (B g:Nat) (T:List Tm) (S:Nat->Prop) (W0:World) (o:Option Tm) (e:Ending) (w':World):Prop :=
 ∃T' n S',e=.returned (.int .i64 n)/\Idn T' o n/\T <+: T'/\T'.length<=T.length+1/\Pay w0 B g T' S' w'/\Grown S W0 S' w'
section
variable {w0 W0 w : World} {B g : Nat} {T : List Tm} {S : Nat -> Prop} {n : Int}
theorem zN (j:Pay w0 B g T S W0) (hs:s.size<=1000000) (o:T.length<=900000) (h:Below W0.heap.size W0 V):Calls prog 38 #[.pointer (some ⟨g,0,none⟩),.string s] V (DoB w0 B g T S W0 (aM s)) :=
 (oU (j.use.below h) hs).mono fun e w' ⟨T',n,S',he,hpt,hA,hG⟩=>⟨T',n,S',he,hpt.idn,hpt.pre,hpt.len,(j.below h).grown hG hA (by have:=hpt.len;omega),(Grown.of_below h).trans hG⟩
theorem KW (q:Pay w0 B g T S W0) {o:Option Tm} (p:Idn T o n) (r:T.length<=900000) (j:Below W0.heap.size W0 V):Calls prog 39 #[.pointer (some ⟨g,0,none⟩),.int .i64 n] V (DoB w0 B g T S W0 (mi o)):=by
 have h:=yF (q.use.below j) n;rw [p.1] at h
 exact h.mono fun e w' ⟨T',n,S',he,hpt,hA,hG⟩=>⟨T',n,S',he,hpt.idn,hpt.pre,hpt.len,(q.below j).grown hG hA (by have:=hpt.len;omega),(Grown.of_below j).trans hG⟩
def ANw (w0:World) (B g:Nat) (c:CfP) (no:Bool) (n:Int) (sid:Option Tm) (T:List Tm) (S:Nat->Prop) (w:World) (e:Ending) (w':World):Prop :=
 ∃p er,e=.returned (.tuple #[.pointer p,er])/\ErV w' (jo c no) er/\Below w.heap.size w w'/\(jo c no≠none->p=none) /\
  (jo c no=none->∃bs_ bg hi A9 c9 A8 c8,p=some ⟨bs_,0,none⟩/\di w0 B g w.heap.size hi bs_ bg A9 c9 c.gr A8 c8 c.al c.lim n sid T S ⟨0,0⟩ w')
theorem zz779 (h_:p_:=by
 rintro e w' ⟨b,rfl,hi,hb⟩;refine ⟨none,aK b,rfl,by rw [hE];exact hi,hb,fun _=>rfl,fun h9=>?_⟩;rw [hE] at h9
 cases h9):p_:=h_
theorem Ch (c:CfP) (o:CvP c D) (v:gL w) (z:iW w) (h:c.M w) (F:Pay w0 B g T S w) {sid:Option Tm} (p:Idn T sid n) (q:sid=none↔no=true) (J:∀t,sid=some t->t.k≠0) :
  Calls prog 57 #[.pointer (some ⟨g,0,none⟩),.agg D,.int .i64 n] w (ANw w0 B g c no n sid T S w):=by
 rcases fq c.err with he | ⟨⟨ps,k⟩,he⟩
 ·by_cases hs:c.sv=false\/sid=none
  ·have hE:=Nh he (hs.imp id q.1)
   refine (MF c o v z h F.ar p he hs).mono ?_;exact zz779
  ·have r:c.sv=true:=by
    cases C:c.sv with
    | true=>rfl
    | false=>exact absurd (.inl C) hs
   cases j:sid with
   | none=>exact absurd (.inr j) hs
   | some t =>
    have A:no=false:=by
     cases C:no with
     | false=>rfl
     | true=>rw [q.2 C] at j;cases j
    have hE:=Ez he r A;rw [<-j];refine (QR c o v z h F p he r j (J t j)).mono ?_;rintro e w' ⟨u,G,hi,A9,c9,A8,c8,rfl,I,hb⟩;exact ⟨_,_,rfl,by rw [hE];rfl,hb,fun h9=>absurd hE h9,fun _=>⟨u,G,hi,A9,c9,A8,c8,rfl,I⟩⟩
 ·have hE:=Nf (no:=no) he
  refine (MR c o v z h _ n he).mono ?_;exact zz779
theorem Grown.setNew {w p:World} {S j:Nat->Prop} (h:Grown S w j o) (k:o.grownBy p (some r)) (u:w.heap.size<=r):Grown S w j p :=
 ⟨k.os.trans h.os,k.tape.trans h.tape,k.output.trans h.output,Yg h.size k.size,fun i hi q=>(k.block i (Yi hi h.size) (fun e=>by have:=Y9 e;omega)).trans (h.block i hi q),h.sub,h.new⟩
theorem ErV.own {w:World} {t:TypeId} {cs:Array Value} {o:Option (List (List UInt8) × Int)} (h:ErV w o v) (p:Blk w r t cs) (j:t≠170) (k:w.grownBy w' (some r)):ErV w' o v:=by
 cases o with
 | none=>exact h
 | some x=>exact aZ.own p j k h
theorem ErV.below {w:World} {o:Option (List (List UInt8) × Int)} (h:ErV w o v) (j:Below w.heap.size w w'):ErV w' o v:=by
 cases o with
 | none=>exact h
 | some x=>exact aZ.below j h
theorem RSv.grown {w:World} {o:Array Value} {s:SvS} (h:RSv w b o sid s) (k:w.grownBy w' (some r)) (j:b≠r):RSv w' b o sid s:=⟨h.size,h.blk.grown k (fun e=>j (Y9 e))⟩
theorem di.rowLo {w0 W:World} {B g lo hi j p:Nat} {A9 A8:Option Addr} {c9 c8:Nat} {gr:List (List UInt8 × Int)} {al:List (List UInt8)} {lim n:Int} {sid:Option Tm} {T:List Tm} {S:Nat->Prop} {s:SvS} (h:di w0 B g lo hi j p A9 c9 gr A8 c8 al lim n sid T S s W) (k:W.grownBy o (some b)) (r:¬ S b) (q:B<=b) (u:b<lo):di w0 B g lo hi j p A9 c9 gr A8 c8 al lim n sid T S s o :=
 { h with pay:=h.pay.kept k r q,hiw:=Yg h.hiw k.size,sb:=h.sb.grown k (fun e=>by have:=Y9 e;have:=h.los;omega),gb:=h.gb.grown k (fun e=>by have:=Y9 e;have:=h.log;omega),r9:=h.r9.kept k (.inr (fun e=>by have:=(h.r9.lt _ e).1;omega)),r8:=h.r8.kept k (.inr (fun e=>by have:=(h.r8.lt _ e).1;omega)) }
structure Wl (w0:World) (B g:Nat) (c:CfP) (sid:ByteArray) (cv:Array Value) (T:List Tm) (S:Nat->Prop) (w:World) (n:Int) (p:Option Addr) (er:Value) (bq:Nat) (T':List Tm) (S':Nat->Prop) (w':World):Prop where
 er:ErV w' (jo c (sid.toList == ([]:List UInt8))) er
 id:Idn T' (jF sid) n
 pre:T <+: T'
 len:T'.length<=T.length+2
 pay:Pay w0 B g T' S' w'
 gr:Grown S w S' w'
 ref:RSv w' bq cv (bs (txt (jF sid))) ⟨0,0⟩
 lb:w.heap.size<=bq
 sb:∀i,S' i->i<bq
 no:jo c (sid.toList == ([]:List UInt8))≠none->p=none
 ok:jo c (sid.toList == ([]:List UInt8))=none->∃lo hi bs_ bg A9 c9 A8 c8,w.heap.size<=lo/\hi<=bq/\p=some ⟨bs_,0,none⟩/\di w0 B g lo hi bs_ bg A9 c9 c.gr A8 c8 c.al c.lim n (jF sid) T' S' ⟨0,0⟩ w'
def VU (w0:World) (B g:Nat) (c:CfP) (sid:ByteArray) (cv:Array Value) (T:List Tm) (S:Nat->Prop) (w:World) (e:Ending) (w':World):Prop :=
 ∃n p er bq y T' S',e=.returned (.tuple #[.pointer p,.int .i64 n,er,.pointer (some ⟨bq,0,none⟩),.agg #[.int .i64 (qx (jo c (sid.toList == ([]:List UInt8)))),.string y]])/\y=bs (uB (jo c (sid.toList == ([]:List UInt8))))/\Wl w0 B g c sid cv T S w n p er bq T' S' w'
theorem Fj (c:CfP) {cv:Array Value} (a6:CvP c cv) (hM:gL w0) (hW:iW w0) (h:c.M w0) (u0:IntKind.i64.wrap c.q0=c.q0) (u1:IntKind.i64.wrap c.q1=c.q1) (u2:IntKind.i64.wrap c.q2=c.q2) (hP:Pay w0 B g T S w) (hT:T.length<=800000) (sid:ByteArray) (hs:sid.size<=300) :
  Calls prog 19 #[.agg (cv++#[Value.string sid]),.pointer (some ⟨g,0,none⟩)] w (VU w0 B g c sid cv T S w):=by
 obtain ⟨W0,hW0⟩:∃W0,W0=(w.alloc (.cells (cv++#[Value.string sid]) 73)).alloc (.cells #[.int .i64 0,.string ⟨#[]⟩] 45):=⟨_,rfl⟩
 have bd:Below w.heap.size w W0:=Zg
 have hX:StB W0 w.heap.size cv sid:=⟨Zc,a6.len⟩
 have R:Blk W0 (w.heap.size+1) 45 #[.int .i64 0,.string ⟨#[]⟩]:=Xr;have C:=hX.sid_;have nS:∀k,¬ S (w.heap.size+k):=fun k h9=>by have:=hP.ar.sL _ h9;omega
 have HP:=hide (hP.below bd);have bh:=hide hP.use.base;have HA:=hide (fun (V:World) {T':List Tm} {S':Nat->Prop} {n:Int} (hP':Pay w0 B g T' S' V) (hid:Idn T' (jF sid) n)=>Ch c a6 (hM.below hP'.bel) (hW.below hP'.bel) (h.below hP'.bel) hP' hid (uS hs) (UQ hs));have HN:=hide (fun (V:World) (hb:Below w0.heap.size w0 V) (t:ByteArray) (hno:(t.toList == ([]:List UInt8))=(sid.toList == ([]:List UInt8)))=>Gb c (h.below hb) u0 u1 u2 a6 t _ hno);have bm:=hide bd;generalize b9:cv++#[Value.string sid]=cx at hW0;clear hM hW h a6 hP bd b9;go_enter func19,ntmps19;go_upto_region 1 with fail;rw [<-hW0];clear hW0
 cases hq:(sid.toList == ([]:List UInt8)) with
 | true =>
  have L:=hide (show Idn T (jF sid) (-1) from by rw [show jF sid=none from (uS hs).2 hq];exact dB T);have aa:=hide (show ((bs (txt (jF sid))).toList == ([]:List UInt8))=(sid.toList == ([]:List UInt8)) from by rw [show jF sid=none from (uS hs).2 hq,hq,ay];rfl)
  obtain ⟨a4,Y⟩:∃x,x=bs (txt (jF sid)):=⟨_,rfl⟩
  have et:a4=⟨#[]⟩:=by rw [Y,show jF sid=none from (uS hs).2 hq];rfl
  rw [<-Y] at aa;have ad:=hide (Grown.of_below (S:=S) bm.out);have ac:=hide (HA.out W0 HP.out L.out);have am:=hide (show T <+: T/\T.length<=T.length+2 from ⟨Yl _,Z0⟩);have Z:=hide HP.out;have X:=hX;have N:=R;have bw:w.heap.size+2<=W0.heap.size:=R.lt;rw [et] at aa;have a9:=hide (Y.symm.trans et);clear Y et a4 HP;go_upto_region 4 with fail;refine wp_region_lit ?_;refine aX (v:=.pointer (some ⟨g,0,none⟩)) (w':=W0) Z5 Za ?_
  try simp only [Act.put,J0,JT,Y0]
  refine aX (v:=.pointer (some ⟨w.heap.size,0,none⟩)) (w':=W0) Z5 Za ?_
  try simp only [Act.put,J0,JT,Y0]
  refine gK Z5 (.tmp 30) rfl Z5 X ?_
  try simp only [Act.put,J0,JT,Y0]
  refine aX (v:=.int .i64 (-1)) (w':=W0) Z5 Za ?_
  try simp only [Act.put,J0,JT,Y0]
  refine eQ (f:=57) Z5 Za ac.out ?_;rintro e w6 ⟨p,er,rfl,F,z,I,J⟩;refine ⟨_,rfl,?_⟩
  try simp only [Act.put,J0,JT,Y0]
  have av:=X.below z;have q:=N.below z N.lt;have P:=hide (Z.out.below z);have a7:=hide (ad.out.trans (Grown.of_below z));have af:=hide (HN.out w6 P.out.bel _ aa.out);have HO:=hide (Y4 F (Y4 I J));clear F z I J X N ac HN Z ad HA;go_upto_region 5 with fail;refine wp_region_lit ?_;refine aX (v:=.pointer (some ⟨w.heap.size,0,none⟩)) (w':=w6) Z5 Za ?_
  try simp only [Act.put,J0,JT,Y0]
  refine gK Z5 (.tmp 37) rfl Z5 av ?_
  try simp only [Act.put,J0,JT,Y0]
  refine aX (v:=.string ⟨#[]⟩) (w':=w6) Z5 Za ?_
  try simp only [Act.put,J0,JT,Y0]
  refine eQ (f:=58) Z5 Za af.out ?_;rintro e O ⟨bq,y,rfl,hy,U,G,r⟩;refine ⟨_,rfl,?_⟩
  try simp only [Act.put,J0,JT,Y0]
  generalize aE:qx (jo c (sid.toList == ([]:List UInt8)))=kk;have a8:=hide aE;clear aE
  obtain ⟨w8,K⟩:∃W8,W8=O.alloc (.cells #[.int .i64 kk,.string y] 45):=⟨_,rfl⟩
  have D:Below O.heap.size O w8:=by rw [K];exact aT _
  have Q:Blk w8 O.heap.size 45 #[.int .i64 kk,.string y]:=by rw [K];exact Blk.new O _ _
  have j:=(q.below r q.lt).below D (q.below r q.lt).lt;have z0:=j.cell 0;have z1:=j.cell 1;have b6:=j.frozen 0;have b8:=j.frozen 1;have v0:=Q.cell 0;have v1:=Q.cell 1;simp only [Jx,Q1,Q2] at z0 z1 v0 v1;have a0:w.heap.size+1≠O.heap.size:=by have:=(q.below r q.lt).lt;omega
  have HF:=hide (Y4 hy (Y4 (U.below D) (Y4 G (Y4 (r.trans (D.mono r.size)) j))));have be:bq<O.heap.size:=U.blk.lt;have a3:=r.size;have bx:=q.lt;clear hy U G r D q av af j Q;go_upto_region 6 with fail;rw [<-K];clear K;generalize O.heap.size=b7 at v0 v1 a0 be a3 ⊢;go_region;go_wp2_with fail;obtain ⟨hy,ap,G,u,j⟩:=HF.out;obtain ⟨F,I,J⟩:=HO.out;have ao:=(dI j (.int .i64 kk) (.string y)).below ((Below.refl _ _).drew) (dI j (.int .i64 kk) (.string y)).lt;have q2:=ao.cell 0;have q3:=ao.cell 1;simp only [Jx,Q1,Q2] at q2 q3;have k9:w8.grownBy ((w8.setCell ⟨w.heap.size+1,0,none⟩ (.int .i64 kk)).setCell ⟨w.heap.size+1,1,none⟩ (.string y)).drew (some (w.heap.size+1)):=aj (ah (p:=⟨w.heap.size+1,1,none⟩) (ah (p:=⟨w.heap.size+1,0,none⟩) (az w8 (some (w.heap.size+1))) (.inl rfl) (.int .i64 kk)) (.inl rfl) (.string y)) (ag ((Below.refl _ _).drew) (some (w.heap.size+1)));refine bodyPost_ret (v:=.tuple #[.pointer p,.int .i64 (-1),er,.pointer (some ⟨bq,0,none⟩),.agg #[.int .i64 kk,.string y]]) (by simp [results,results19,go_sem,q2,q3]) rfl ?_;have aF:¬ S (w.heap.size+1):=nS 1;have bb:=P.out.below u;have an:B<=w.heap.size+1:=by have:=bh.out;omega
  refine ⟨(-1),p,er,bq,y,T,S,by rw [a8.out],hy,((F.below u).own j Z2 k9),L.out,am.out.1,am.out.2,bb.kept k9 aF an,(a7.out.trans (Grown.of_below u)).setNew k9 (YB _),(by rw [a9.out];exact ap.grown k9 Z0),Z0,fun i hi=>by have:=P.out.ar.sL i hi;omega,I,fun h9=>?_⟩;obtain ⟨ba,bg,hi,A9,c9,A8,c8,hp,aq⟩:=J h9;exact ⟨W0.heap.size,hi,ba,bg,A9,c9,A8,c8,Z0,Yg aq.hiw G,hp,(aq.below u).rowLo k9 aF an Z0⟩
 | false =>
  have b4:jF sid=mi (aM sid):=by unfold jF;rw [hq];rfl
  have HD:=hide (fun (V:World) (hb:Below W0.heap.size W0 V)=>zN HP.out (s:=sid) Z0 Z0 hb);have HH:=hide (fun (V Vb:World) (T2:List Tm) (S2:Nat->Prop) (n2:Int) (a5:Pay w0 B g T2 S2 Vb) (hi:Idn T2 (aM sid) n2) (hT2:T2.length<=900000) (hb:Below Vb.heap.size Vb V)=>KW a5 hi hT2 hb);have bj:=hide (fun (V:World)=>show Calls prog 41 #[.string sid] V (Says (txt (aM sid)) V) from (by have h9:=sF sid.data.toList V ZP;rwa [Pd] at h9));have bl:=hide (fun (V:World)=>LF (o:=aM sid) (gH Z0) V);go_upto_region 3 with fail
  go_region_held3 (fun V=>V.cell? ⟨w.heap.size,23,none⟩=some (.string sid))
   (exact C)
   (first
    | (go_at_call 38;refine (HD.out _ Z4).mono ?_;rintro e w2 ⟨T2,n2,S2,rfl,hi2,b0,ca,a5,A⟩;replace C:=A.outs.cell C (nS 0))
    | (go_at_call 39;refine (HH.out _ w2 T2 S2 n2 a5 hi2 Z0 Z4).mono ?_;rintro e w3 ⟨T3,n3,S3,rfl,bt,b3,cb,bn,ab⟩;replace C:=ab.outs.cell C (A.notin2 (nS 0) hX.blk.lt))
    | (go_at_call 41;refine (bj.out _).mono ?_;rintro e w4 ⟨rfl,aw⟩;replace C:=aA aw C)
    | (go_at_call 40;refine (bl.out _).mono ?_;rintro e w5 ⟨rfl,hb5⟩;replace C:=aA hb5 C)
    | fail)
  have aa:=hide (show ((bs (txt (mi (aM sid)))).toList == ([]:List UInt8))=(sid.toList == ([]:List UInt8)) from by rw [sQ hs,hq,ay];rfl);have br:=ab.outs.blk (A.outs.blk hX.blk (nS 0)) (A.notin2 (nS 0) hX.blk.lt)
  have bp:StB w3 w.heap.size cv sid:=⟨br,hX.size⟩
  have X:=(bp.below aw).below hb5;have bc:=ab.outs.blk (A.outs.blk R (nS 1)) (A.notin2 (nS 1) R.lt);have hb35:=aw.trans (hb5.mono aw.size);have N:=bc.below hb35 bc.lt;have Z:=hide (bn.below hb35);have ad:=hide ((((Grown.of_below (S:=S) bm.out).trans A).trans ab).trans (Grown.of_below hb35));have L:=hide (show Idn T3 (jF sid) n3 from by rw [b4];exact bt);have am:=hide (show T <+: T3/\T3.length<=T.length+2 from ⟨b0.trans b3,Z0⟩);have ac:=hide (HA.out w5 Z.out L.out);have bo:¬ S3 (w.heap.size+1):=ab.notin2 (A.notin2 (nS 1) R.lt) (Yi R.lt A.size);have bw:w.heap.size+2<=w5.heap.size:=by have:=N.lt;omega
  clear hi2 b0 ca a5 A bt b3 cb bn ab aw hb5 hb35 bp br bc HD HH bj bl C HP hX R;go_upto_region 4 with fail;generalize b5:bs (txt (mi (aM sid)))=a4 at aa ⊢;have a9:=hide (show bs (txt (jF sid))=a4 from by rw [b4];exact b5);clear b5;refine wp_region_lit ?_;refine aX (v:=.pointer (some ⟨g,0,none⟩)) (w':=w5) Z5 Za ?_
  try simp only [Act.put,J0,JT,Y0]
  refine aX (v:=.pointer (some ⟨w.heap.size,0,none⟩)) (w':=w5) Z5 Za ?_
  try simp only [Act.put,J0,JT,Y0]
  refine gK Z5 (.tmp 30) rfl Z5 X ?_
  try simp only [Act.put,J0,JT,Y0]
  refine aX (v:=.int .i64 n3) (w':=w5) Z5 Za ?_
  try simp only [Act.put,J0,JT,Y0]
  refine eQ (f:=57) Z5 Za ac.out ?_;rintro e w6 ⟨p,er,rfl,F,z,I,J⟩;refine ⟨_,rfl,?_⟩
  try simp only [Act.put,J0,JT,Y0]
  have av:=X.below z;have q:=N.below z N.lt;have P:=hide (Z.out.below z);have a7:=hide (ad.out.trans (Grown.of_below z));have af:=hide (HN.out w6 P.out.bel _ aa.out);have HO:=hide (Y4 F (Y4 I J));clear F z I J X N ac HN Z ad HA;go_upto_region 5 with fail;refine wp_region_lit ?_;refine aX (v:=.pointer (some ⟨w.heap.size,0,none⟩)) (w':=w6) Z5 Za ?_
  try simp only [Act.put,J0,JT,Y0]
  refine gK Z5 (.tmp 37) rfl Z5 av ?_
  try simp only [Act.put,J0,JT,Y0]
  refine aX (v:=.string a4) (w':=w6) Z5 Za ?_
  try simp only [Act.put,J0,JT,Y0]
  refine eQ (f:=58) Z5 Za af.out ?_;rintro e O ⟨bq,y,rfl,hy,U,G,r⟩;refine ⟨_,rfl,?_⟩
  try simp only [Act.put,J0,JT,Y0]
  generalize aE:qx (jo c (sid.toList == ([]:List UInt8)))=kk;have a8:=hide aE;clear aE
  obtain ⟨w8,K⟩:∃W8,W8=O.alloc (.cells #[.int .i64 kk,.string y] 45):=⟨_,rfl⟩
  have D:Below O.heap.size O w8:=by rw [K];exact aT _
  have Q:Blk w8 O.heap.size 45 #[.int .i64 kk,.string y]:=by rw [K];exact Blk.new O _ _
  have j:=(q.below r q.lt).below D (q.below r q.lt).lt;have z0:=j.cell 0;have z1:=j.cell 1;have b6:=j.frozen 0;have b8:=j.frozen 1;have v0:=Q.cell 0;have v1:=Q.cell 1;simp only [Jx,Q1,Q2] at z0 z1 v0 v1;have a0:w.heap.size+1≠O.heap.size:=by have:=(q.below r q.lt).lt;omega
  have HF:=hide (Y4 hy (Y4 (U.below D) (Y4 G (Y4 (r.trans (D.mono r.size)) j))));have be:bq<O.heap.size:=U.blk.lt;have a3:=r.size;have bx:=q.lt;clear hy U G r D q av af j Q;go_upto_region 6 with fail;rw [<-K];clear K;generalize O.heap.size=b7 at v0 v1 a0 be a3 ⊢;go_region;go_wp2_with fail;obtain ⟨hy,ap,G,u,j⟩:=HF.out;obtain ⟨F,I,J⟩:=HO.out;have ao:=(dI j (.int .i64 kk) (.string y)).below ((Below.refl _ _).drew) (dI j (.int .i64 kk) (.string y)).lt;have q2:=ao.cell 0;have q3:=ao.cell 1;simp only [Jx,Q1,Q2] at q2 q3;have k9:w8.grownBy ((w8.setCell ⟨w.heap.size+1,0,none⟩ (.int .i64 kk)).setCell ⟨w.heap.size+1,1,none⟩ (.string y)).drew (some (w.heap.size+1)):=aj (ah (p:=⟨w.heap.size+1,1,none⟩) (ah (p:=⟨w.heap.size+1,0,none⟩) (az w8 (some (w.heap.size+1))) (.inl rfl) (.int .i64 kk)) (.inl rfl) (.string y)) (ag ((Below.refl _ _).drew) (some (w.heap.size+1)));refine bodyPost_ret (v:=.tuple #[.pointer p,.int .i64 n3,er,.pointer (some ⟨bq,0,none⟩),.agg #[.int .i64 kk,.string y]]) (by simp [results,results19,go_sem,q2,q3]) rfl ?_;have aF:¬ S3 (w.heap.size+1):=bo;have bb:=P.out.below u;have an:B<=w.heap.size+1:=by have:=bh.out;omega
  refine ⟨n3,p,er,bq,y,T3,S3,by rw [a8.out],hy,((F.below u).own j Z2 k9),L.out,am.out.1,am.out.2,bb.kept k9 aF an,(a7.out.trans (Grown.of_below u)).setNew k9 (YB _),(by rw [a9.out];exact ap.grown k9 Z0),Z0,fun i hi=>by have:=P.out.ar.sL i hi;omega,I,fun h9=>?_⟩;obtain ⟨ba,bg,hi,A9,c9,A8,c8,hp,aq⟩:=J h9;exact ⟨w5.heap.size,hi,ba,bg,A9,c9,A8,c8,Z0,Yg aq.hiw G,hp,(aq.below u).rowLo k9 aF an Z0⟩
end
theorem QL {m:Nat} (h:∀x∈l,x.s.length<=m) (i:Nat):(atF l i).s.length<=m:=by
 unfold atF
 cases g:l[i]? with
 | none=>exact Yb _
 | some x=>exact h x (Yo g)
theorem CY {n:Nat} (h:dC p=.ok n l) (v:p.length<=3000):(∀x∈l,x.s.length<=3100)/\l.length<=20:=by
 obtain ⟨he,hp⟩:=IK h;unfold encS at he
 split at he
 ·rename_i u
  obtain ⟨f1,f2⟩:=oM u;have g:l.length=(fit (n:Int) l.length).1.data.toList.length:=f2.symm.trans (aC _);obtain ⟨w,q,r,_⟩:=tY g he;have j:([UInt8.ofNat (n:Int).toNat]++bI l).length=p.length:=by rw [r]
  rw [Ya,YA] at j;refine ⟨fun x o=>?_,?_⟩
  ·have z:=Kv o
   obtain ⟨A,B,C⟩:=Pw (q x o);omega
  ·have:=Ro f1
   omega
 ·cases he
theorem CS (h:fu (dC p)=none):∃num l,dC p=.ok num l:=by
 cases p with
 | nil=>cases h
 | cons c r =>
  by_cases o:32768<(c :: r).length
  ·rw [oP o] at h
   cases h
  ·cases j:forms c.toNat with
   | nil =>
    rw [oF o j] at h;cases h
   | cons f fs =>
    cases g:dL (forms c.toNat) r with
    | some l=>exact ⟨_,l,qN Z0 g⟩
    | none =>
     rw [q8 o j g] at h;rw [j] at g
     cases q:aQ f.data.toList r 0 with
     | ok l =>
      simp only [dL,q] at g;cases g
     | no e i=>rw [q] at h;cases h
     | tail=>rw [q] at h;cases h
theorem O5 (hp:p.length<=3000):Sd p:=⟨fun _ _ h=>⟨(CY h hp).2,QL (CY h hp).1⟩,CS⟩
end Go.Proofs.YtnhekaepgpbijaaGreatDoor
namespace Go.Proofs.YtnhekaepgpbijaaGreatDoor
open Go.Proofs.Tryz Go.RowKit
variable {m:List UInt8} {i:Nat}
def U3:List UInt8:=[97,110,110]
def TR:List UInt8:=[5,0,0,0,12,115,115,104,45,117,115,101,114,97,117,116,104]
def ji (m:List UInt8):List Fld:=[⟨115,0,U3,[]⟩,⟨115,0,dn,[]⟩,⟨115,0,m,[]⟩]
theorem Qs:dC TR=.ok 5 [⟨115,0,fT,[]⟩]:=Z1
theorem Ui:fit 50 3=(⟨#[115,115,115]⟩,true):=Z1
theorem R3 {s:List UInt8}:okF ⟨115,0,s,[]⟩:=⟨XR,rfl⟩
theorem DK (m:List UInt8):(bI (ji m)).length=29+m.length:=by
 have h:bI (ji m)=bi U3++(bi dn++(bi m++[])):=rfl;have g:∀n,(q4 n).length=4:=fun _=>rfl
 rw [h];simp only [Ya,bi,g,YL];show (4+3)+((4+14)+((4+m.length)+0))=_;omega
theorem QO (h:m.length<=100):encS 50 (ji m)=.ok ([50]++bI (ji m)):=by
 unfold encS;rw [show fit 50 ((ji m).length:Int)=(⟨#[115,115,115]⟩,true) from Ui,Y6 rfl];refine Dg rfl (fun x g=>?_) ?_
 ·simp only [ji,Yz,List.not_mem_nil,or_false] at g
  rcases g with rfl | rfl | rfl <;> exact R3
 ·rw [Ya,DK]
  simp;omega
theorem Ia (j:m.length<=100):dC ([50]++bI (ji m))=.ok 50 (ji m) :=
 (Rb (fun x h=>by
  simp only [ji,Yz,List.not_mem_nil,or_false] at h;rcases h with rfl | rfl | rfl
  ·exact ⟨Z2,fun y g=>by cases g⟩
  ·exact ⟨Z2,fun y g=>by cases g⟩
  ·exact ⟨by show m.length<_;omega,fun y g=>by cases g⟩) (QO j)).1
def jU (lim:Int) (i:Nat):SvS:=if (i:Int)<lim then ⟨1,i⟩ else ⟨3,lim.toNat⟩
section
variable {gr : List (List UInt8 × Int)} {al : List (List UInt8)} {lim : Int} {sid : Option Tm}
theorem SQ:dS gr al lim sid ⟨0,0⟩ TR=(⟨1,0⟩,⟨mZ,none,none⟩):=by
 unfold dS;rw [Y5 Z2,Qs];rfl
theorem Ci (s:SvS) (hs:s.ph=1) (m:List UInt8):jS gr al lim sid s 50 (ji m)=aP lim s:=by
 unfold jS;rw [Y5 Z0,Y5 Z0,Y6 ⟨rfl,hs⟩,Y5 (by intro h;exact h rfl)];unfold gU;rw [Y6 ⟨by show 3≠6;decide,by show 3≠7;decide⟩]
theorem Qc (hi:((i+1:Nat):Int)<lim) (j:m.length<=100):dS gr al lim sid (jU lim i) ([50]++bI (ji m))=(jU lim (i+1),⟨nE,none,none⟩):=by
 have g:jU lim i=⟨1,i⟩:=Y6 Z0;have h:jU lim (i+1)=⟨1,i+1⟩:=Y6 hi;unfold dS;rw [g,Y5 (show (1:Nat)≠3 by decide),Ia j];simp only;rw [Ci _ rfl,aP,Y5 (by simp only;omega),h];rfl
theorem Pk (hi:((i+1:Nat):Int)=lim) (j:m.length<=100):dS gr al lim sid (jU lim i) ([50]++bI (ji m))=(jU lim (i+1),⟨[],none,some ([bZ,kQ],12)⟩):=by
 have g:jU lim i=⟨1,i⟩:=Y6 Z0;have h:jU lim (i+1)=⟨3,i+1⟩:=by unfold jU;rw [Y5 Z0,<- hi];rfl
 unfold dS;rw [g,Y5 (show (1:Nat)≠3 by decide),Ia j];simp only;rw [Ci _ rfl,aP,Y6 (by simp only;omega),h];rfl
theorem MJ (hi:lim<((i+1:Nat):Int)) (p:List UInt8):dS gr al lim sid (jU lim i) p=(jU lim (i+1),⟨[],none,some ([bZ],7)⟩):=by
 have g:jU lim i=⟨3,lim.toNat⟩:=Y5 Z0;have h:jU lim (i+1)=⟨3,lim.toNat⟩:=Y5 Z0;unfold dS;rw [g,Y6 rfl,h];rfl
end
end Go.Proofs.YtnhekaepgpbijaaGreatDoor
namespace Go.Proofs.YtnhekaepgpbijaaGreatDoor
open Go.Proofs.Tryz Go.RowKit Go.ChangeShapes Go.WideShapes Go.Sort
def PH (lim:Int) (i:Nat):List UInt8:=if ((i+1:Nat):Int)<lim then nE else []
def KA (lim:Int) (i:Nat):Option (List (List UInt8) × Int):=if ((i+1:Nat):Int)<lim then none else if ((i+1:Nat):Int)=lim then some ([bZ,kQ],12) else some ([bZ],7)
section
variable {w0 W w : World} {B g lo hi bs_ bg : Nat} {A9 A8 : Option Addr} {c9 c8 : Nat} {gr : List (List UInt8 × Int)} {al : List (List UInt8)} {lim n : Int} {sid : Option Tm} {T : List Tm} {S : Nat -> Prop} {i : Nat}
def Uc (w0:World) (B g lo hi bs_ bg:Nat) (A9:Option Addr) (c9:Nat) (gr:List (List UInt8 × Int)) (A8:Option Addr) (c8:Nat) (al:List (List UInt8)) (lim n:Int) (sid:Option Tm) (T:List Tm) (i:Nat) (e:Ending) (w':World):Prop :=
 ∃T' S' ov er,e=.returned (.tuple #[ov,.slice none 0 0,er])/\EM w' (PH lim i) ov/\ErV w' (KA lim i) er/\T'.length<=T.length+15000/\di w0 B g lo hi bs_ bg A9 c9 gr A8 c8 al lim n sid T' S' (jU lim (i+1)) w'
theorem Pf (h:di w0 B g lo hi bs_ bg A9 c9 gr A8 c8 al lim n sid T S (jU lim i) W) (X:1<=lim) (Y:lim<=20) {m:List UInt8} (D:m.length<=100) (Q:T.length<=700000) (z:gr.length<=1000) (hal:al.length<=1000) :
  Calls prog 21 #[.pointer (some ⟨bs_,0,none⟩),.string (bs ([50]++bI (ji m)))] W (Uc w0 B g lo hi bs_ bg A9 c9 gr A8 c8 al lim n sid T i):=by
 have U:([50]++bI (ji m)).length<=200:=by rw [Ya,DK];simp;omega
 have key:∀o:SvS × jZ,dS gr al lim sid (jU lim i) ([50]++bI (ji m))=o->o.1=jU lim (i+1)->o.2.out=PH lim i->o.2.ev=none->o.2.err=KA lim i->Calls prog 21 #[.pointer (some ⟨bs_,0,none⟩),.string (bs ([50]++bI (ji m)))] W (Bi w0 B g lo hi bs_ bg A9 c9 gr A8 c8 al lim n sid T S W o)->Calls prog 21 #[.pointer (some ⟨bs_,0,none⟩),.string (bs ([50]++bI (ji m)))] W (Uc w0 B g lo hi bs_ bg A9 c9 gr A8 c8 al lim n sid T i):=by
  intro o _ L N O P r;refine r.mono ?_;rintro e w' ⟨K,J,V,ev,er,rfl,F,I,G,_,R,C,_⟩;rw [L] at C;rw [N] at F;rw [O] at I;rw [P] at G;have A:ev=.slice none 0 0:=I;subst A;exact ⟨K,J,V,er,rfl,F,G,R,C⟩
 by_cases v:((i:Nat):Int)<lim
 ·have u:((jU lim i).fl:Int)<lim/\(jU lim i).fl<=1000:=by unfold jU;rw [Y6 v];exact ⟨v,by show i<=1000;omega⟩
  have r:=xN h (bs ([50]++bI (ji m))) (by show ([50]++bI (ji m)).length<=_;omega) Q u.1 u.2 z hal (O5 (by show ([50]++bI (ji m)).length<=_;omega));have j:Calls prog 21 #[.pointer (some ⟨bs_,0,none⟩),.string (bs ([50]++bI (ji m)))] W (Bi w0 B g lo hi bs_ bg A9 c9 gr A8 c8 al lim n sid T S W (dS gr al lim sid (jU lim i) ([50]++bI (ji m)))):=r
  by_cases p:((i+1:Nat):Int)<lim
  ·have e:=Qc (gr:=gr) (al:=al) (sid:=sid) p D
   rw [e] at j;exact key _ e rfl (by unfold PH;rw [Y6 p]) rfl (by unfold KA;rw [Y6 p]) j
  ·have q:((i+1:Nat):Int)=lim:=by omega
   have e:=Pk (gr:=gr) (al:=al) (sid:=sid) q D;rw [e] at j;exact key _ e rfl (by unfold PH;rw [Y5 p]) rfl (by unfold KA;rw [Y5 p,Y6 q]) j
 ·have e:=MJ (gr:=gr) (al:=al) (sid:=sid) (i:=i) (lim:=lim) Z0 ([50]++bI (ji m))
  have r:=ow h (bs ([50]++bI (ji m))) (by unfold jU;rw [Y5 v]);have j:Calls prog 21 #[.pointer (some ⟨bs_,0,none⟩),.string (bs ([50]++bI (ji m)))] W (Bi w0 B g lo hi bs_ bg A9 c9 gr A8 c8 al lim n sid T S W (dS gr al lim sid (jU lim i) ([50]++bI (ji m)))):=r;rw [e] at j;exact key _ e rfl (by unfold PH;rw [Y5 Z0]) rfl (by unfold KA;rw [Y5 Z0,Y5 Z0]) j
end
theorem xU {P:Program} {Q:Exit->Act->World->Prop} {j:Array Oper} {o:Oper} {a:Act} {w:World} {args:Array Value} {f:FuncId} {K:Act->World->Prop} {F:Prop} (hw:Region.wanted o (yielded j a.tmps)=true)
  (u:(execOp a.eval o).run P w=.ok (.enter f args) w) {g:Ending->World->Prop} (p:Calls P f args w g) (h:∀e w',g e w'->∃r,e=.returned r/\K (a.put o.dst r) w'):if Region.wanted o (yielded j a.tmps)=true then Oper.wp P o a w K Q else F:=by
 rw [Y6 hw];unfold Oper.wp;rw [u,Oper.upon_enter];refine p.mono fun e w' hp=>?_
 obtain ⟨r,rfl,q⟩:=h e w' hp;exact q
theorem EZ {w:World} {x:Operand} (o:Oper) (j:o.op=.load 30 x) (h:Operand->Value) {b:Nat} (p:h x=.pointer (some ⟨b,0,none⟩)) {g:Array Value} (hX:Blk w b 30 g) (hl:g.toList.length=23) :
  (execOp h o).run prog w=.ok (.value (.agg g)) w:=by
 unfold execOp;have key:=run_loadAt_mid (P:=prog) w b 0 30 g.toList _ (vX XW) underlying30 rfl XV;rw [YN] at key;simp only [j,p];simp [Sem.run_bind,key]
theorem Vx:inC (dQ [unl (bV [112,108,97,105,110] [] != []) [118,101,114,115,105,111,110] 1,prR (prW iG),unl (aG 1) [111,119,110] 5,bQ (aS [([97,110,110],8)] [[115,115,104,45,101,100,50,53,53,49,57]] 1)])=none:=Z1
section
variable {w : World}
theorem Le (Y:gL w):Calls prog 37 #[.bool true,.int .i64 1] w (fun e w'=>∃(c:CfP) (cv:Array Value),e=.returned (.agg cv)/\cv.toList.length=23/\cv.all (·.oneCell')=true/\CvP c (cv.setIfInBounds 14 (.int .i64 1))/\(∀V:World,w'.heap.size<=V.heap.size->(∀p:Addr,w.heap.size<=p.block->p.block<w'.heap.size->V.cell? p=w'.cell? p)->c.M V)/\c.err=none/\c.sv=true/\c.lim=1/\c.gr.length<=1000/\c.al.length<=1000/\Below w.heap.size w w'):=by
 refine (Jl Y 1).mono ?_;rintro e w' ⟨g,O,B,B1,m1,C,j,P,D,o,Q,F,q,R,G,r,S,I,u,T,J,v,U,K,z,L,A,N,rfl,_,X,Z⟩;obtain ⟨_,rfl,h⟩:=CO (⟨true,false,false,[112,108,97,105,110],[],[],g,B1,j,o,q,r,u,v,z,A,none,O,m1,P,Q,R,S,T,U,B,C,D,F,G,I,J,K,L,N,0,[[115,115,104,45,101,100,50,53,53,49,57]],1,1,0,0,0,0,[([97,110,110],8)],[],iG⟩:CfP);exact ⟨_,#[.bool true,.string ⟨#[112,108,97,105,110]⟩,.string ⟨#[]⟩,.slice g O B,.slice B1 m1 C,.slice j P D,.slice o Q F,.slice q R G,.slice r S I,.slice u T J,.slice v U K,.slice z 1 L,.int .i64 1,.slice A 1 N,.int .i64 3,.int .i64 0,.string ⟨#[]⟩,.slice none 0 0,.bool false,.bool false,.int .u32 0,.int .u32 0,.int .u32 0],rfl,rfl,Zd,h,X,Vx,rfl,rfl,(show (1:Nat)<=1000 by decide),(show (1:Nat)<=1000 by decide),Z⟩
theorem BO (hT:Tab w) (a4:kH w) (a3:gL w) (a5:iW w) (hH:Hand w):Calls prog 18 #[] w (fun e w'=>e=.returned (.bool true)/\Below w.heap.size w w'):=by
 have HN:=hide (zS w);have HV:=hide (fun (V:World) (hb:Below w.heap.size w V)=>Y4 (a3.below hb) (Y4 (a5.below hb) (hH.below hb)));have HT:=hide (Y4 hT a4);clear hT a4 a3 a5 hH;go_enter func18,ntmps18;go_wp2_with fail;refine HN.out.mono ?_;rintro e w1 ⟨g,S,rfl,hA,U⟩;have HP:=hide (Pay.new HT.out.1 HT.out.2 (Below.refl _ _) hA U);have am:=hide (Le (HV.out _ U).1);clear hA U HN HT;go_upto_region 2 with fail;refine wp_region_lit ?_;refine gX (f:=37) (args:=#[.bool true,.int .i64 1]) rfl Zn am.out ?_;rintro e w2 ⟨c,r,rfl,J,be,Z,aF,bp,br,bq,a9,hal,A⟩;refine ⟨_,rfl,?_⟩
 try simp only [Act.put,J0,JT,Y0]
 obtain ⟨w3,L⟩:∃w3,w3=w2.alloc (.cells qO 30):=⟨_,rfl⟩
 have T:Blk w3 w2.heap.size 30 qO:=by rw [L];exact Blk.new w2 _ _
 have hb3:Below w2.heap.size w2 w3:=by rw [L];exact eY _
 refine gJ (v:=.pointer (some ⟨w2.heap.size,0,none⟩)) (w':=w3) rfl (by rw [L];exact Mf _ rfl _ _) ?_;clear L
 try simp only [Act.put,J0,JT,Y0]
 refine ja rfl (.tmp 2) (.tmp 12) rfl Z5 Z5 T rfl J be ?_
 have B:Blk (w3.setCells w2.heap.size 0 r.toList) w2.heap.size 30 r:=by
  have h9:=Blk.setCells r.toList 0 T;rw [oC (by rw [J];rfl),YN] at h9;exact h9
 have X:Below w2.heap.size w2 (w3.setCells w2.heap.size 0 r.toList):=below_setCells (Y2 _) _ _ hb3;generalize w3.setCells w2.heap.size 0 r.toList=w4 at B X ⊢
 try simp only [Act.put,J0,JT,Y0]
 have ac:=B.cell 14;have aw:=B.frozen 14;rw [Array.getElem?_eq_getElem (show 14<r.size by have:=J;simp at this;omega)] at ac
 obtain ⟨w5,N⟩:∃w5,w5=w4.setCell ⟨w2.heap.size,14,none⟩ (.int .i64 1):=⟨_,rfl⟩
 have z:=B.set_ 14 (.int .i64 1);have hb5:Below w2.heap.size w2 (w4.setCell ⟨w2.heap.size,14,none⟩ (.int .i64 1)):=X.setCell (p:=⟨w2.heap.size,14,none⟩) (Y2 _) _;rw [<-N] at z hb5;have C:=hb5.size;have D:∀p:Addr,p.block<w2.heap.size->w5.cell? p=w2.cell? p:=fun p hp=>hb5.cell hp
 have af:=hide (HP.out.below (A.trans (hb5.mono A.size)));have nb:¬ S w2.heap.size:=fun h9=>by have h8:=HP.out.ar.sL _ h9;have h7:=A.size;omega
 have b5:=A.trans (hb5.mono A.size);have bl:=hide (fun (V:World) (S9:Nat->Prop) (hG:Grown S w5 S9 V)=>aF V (Yg C hG.size) (fun p h1 h2=>((World.cell?_of_block (hG.block p.block (Yi h2 C) (fun h9=>by have h8:=HP.out.ar.sL _ h9;omega))).trans (D p h2))));generalize r.setIfInBounds 14 (.int .i64 1)=cv at z Z;have hl:=Z.len;clear T hb3 B X aF A hb5 HP am be C D;generalize w2.heap.size=bc at z N ac aw nb ⊢;go_upto_region 3 with fail;go_upto_region 4 with fail;rw [<-N];clear N ac aw J;have bm:=hide z;refine fJ (fun V=>Blk V bc 30 cv) (fun i=>decide (i<10)) Z1 ?_
 obtain ⟨Wd,hWd⟩:∃Wd,Wd=w5.drew:=⟨_,rfl⟩
 have Y:Below w5.heap.size w5 Wd:=Xl;have I:Blk Wd bc 30 cv:=z.below Y z.lt;have HD:=hide (zN af.out (s:=⟨#[115]⟩) Z2 Z3 Y);rw [<-hWd];clear hWd z Y;refine ak (i:=0) (oi:=?_) (v:=.pointer (some ⟨g,0,none⟩)) ?_ ?_ ?_ ?_ ?_ ?_ ?_ I ?_;rotate_left 1
 ·(first | (simp only [Jx,Q2,Q1];exact rfl) | exact rfl)
 ·kernel_rfl
 ·kernel_rfl
 ·kernel_rfl
 ·kernel_rfl
 ·exact fun _ _ _ h=>h
 ·refine Or.inl ⟨Z5,fun w j=>?_⟩
  clear j;go_simp
 try simp only [Act.put,J0,JT,Y0]
 refine ak (i:=1) (oi:=?_) (v:=.agg cv) ?_ ?_ ?_ ?_ ?_ ?_ ?_ I ?_;rotate_left 1
 ·(first | (simp only [Jx,Q2,Q1];exact rfl) | exact rfl)
 ·kernel_rfl
 ·kernel_rfl
 ·kernel_rfl
 ·kernel_rfl
 ·exact fun _ _ _ h=>h
 ·exact Or.inl ⟨Z5,fun w j=>EZ (x:=.tmp 2) _ rfl _ Z5 j hl⟩
 try simp only [Act.put,J0,JT,Y0]
 refine ak (i:=2) (oi:=?_) (v:=.pointer (some ⟨g,0,none⟩)) ?_ ?_ ?_ ?_ ?_ ?_ ?_ I ?_;rotate_left 1
 ·(first | (simp only [Jx,Q2,Q1];exact rfl) | exact rfl)
 ·kernel_rfl
 ·kernel_rfl
 ·kernel_rfl
 ·kernel_rfl
 ·exact fun _ _ _ h=>h
 ·refine Or.inl ⟨Z5,fun w j=>?_⟩
  clear j;go_simp
 try simp only [Act.put,J0,JT,Y0]
 refine au (rs:=[3]) Z1 Z3 ?_;refine ai.cons (o:=?_) ?_ (fun K hK=>?_) ai.nil;rotate_left 1
 ·(first | (simp only [Jx,Q2,Q1];exact rfl) | exact rfl)
 refine xU (f:=38) Z5 Za HD.out ?_;rintro e w6 ⟨T6,n6,S6,rfl,ba,bx,bd,F,P⟩;refine ⟨_,rfl,?_⟩
 have G:Blk w6 bc 30 cv:=(P.outs.blk (bm.out) nb)
 refine hK.out _ _ G (fun _=>?_);have ad:=hide (Ch c Z (HV.out _ F.bel).1 (HV.out _ F.bel).2.1 (bl.out _ _ P) F ba (no:=false) ⟨fun h9=>(by rw [tV Z2] at h9;cases h9),fun h9=>YP⟩ (fun t h9=>(by rw [tV Z2] at h9;cases h9;show (1:Nat)≠0;decide)));clear hK K ba bx HD
 try simp only [Act.put,J0,JT,Y0]
 refine au (rs:=[4]) Z1 Z3 ?_;refine ai.cons (o:=?_) ?_ (fun K hK=>?_) ai.nil;rotate_left 1
 ·(first | (simp only [Jx,Q2,Q1];exact rfl) | exact rfl)
 refine xU (f:=57) Z5 Za ad.out ?_;rintro e w7 ⟨p,er,rfl,aa,a7,_,bh⟩;refine ⟨_,rfl,?_⟩;have hE:=Ez bp br (rfl:(false:Bool)=false);rw [hE] at aa;have a8:er=.nilIface:=aa;subst a8;obtain ⟨q,bg,hi,A9,c9,A8,c8,rfl,R⟩:=bh hE;have u:Blk w7 bc 30 cv:=G.below a7 G.lt;refine hK.out _ _ u (fun _=>?_);clear hK K ad bh aa
 try simp only [Act.put,J0,JT,Y0]
 refine ak (i:=5) (oi:=?_) (v:=.tuple #[.pointer (some ⟨q,0,none⟩),.nilIface]) ?_ ?_ ?_ ?_ ?_ ?_ ?_ u ?_;rotate_left 1
 ·(first | (simp only [Jx,Q2,Q1];exact rfl) | exact rfl)
 ·kernel_rfl
 ·kernel_rfl
 ·kernel_rfl
 ·kernel_rfl
 ·exact fun _ _ _ h=>h
 ·refine Or.inl ⟨Z5,fun w j=>?_⟩
  clear j;go_simp
 try simp only [Act.put,J0,JT,Y0]
 refine ak (i:=6) (oi:=?_) (v:=.pointer (some ⟨q,0,none⟩)) ?_ ?_ ?_ ?_ ?_ ?_ ?_ u ?_;rotate_left 1
 ·(first | (simp only [Jx,Q2,Q1];exact rfl) | exact rfl)
 ·kernel_rfl
 ·kernel_rfl
 ·kernel_rfl
 ·kernel_rfl
 ·exact fun _ _ _ h=>h
 ·refine Or.inl ⟨Z5,fun w j=>?_⟩
  clear j;go_simp
 try simp only [Act.put,J0,JT,Y0]
 refine ak (i:=7) (oi:=?_) (v:=.nilIface) ?_ ?_ ?_ ?_ ?_ ?_ ?_ u ?_;rotate_left 1
 ·(first | (simp only [Jx,Q2,Q1];exact rfl) | exact rfl)
 ·kernel_rfl
 ·kernel_rfl
 ·kernel_rfl
 ·kernel_rfl
 ·exact fun _ _ _ h=>h
 ·refine Or.inl ⟨Z5,fun w j=>?_⟩
  clear j;go_simp
 try simp only [Act.put,J0,JT,Y0]
 refine ak (i:=8) (oi:=?_) (v:=.pointer (some ⟨q,0,none⟩)) ?_ ?_ ?_ ?_ ?_ ?_ ?_ u ?_;rotate_left 1
 ·(first | (simp only [Jx,Q2,Q1];exact rfl) | exact rfl)
 ·kernel_rfl
 ·kernel_rfl
 ·kernel_rfl
 ·kernel_rfl
 ·exact fun _ _ _ h=>h
 ·refine Or.inl ⟨Z5,fun w j=>?_⟩
  clear j;go_simp
 try simp only [Act.put,J0,JT,Y0]
 refine ak (i:=9) (oi:=?_) (v:=.nilIface) ?_ ?_ ?_ ?_ ?_ ?_ ?_ u ?_;rotate_left 1
 ·(first | (simp only [Jx,Q2,Q1];exact rfl) | exact rfl)
 ·kernel_rfl
 ·kernel_rfl
 ·kernel_rfl
 ·kernel_rfl
 ·exact fun _ _ _ h=>h
 ·refine Or.inl ⟨Z5,fun w j=>?_⟩
  clear j;go_simp
 try simp only [Act.put,J0,JT,Y0]
 refine cB Z1 ?_ _;rw [bq] at R;have an:=hide R
 have ao:=hide (show Calls prog 21 #[.pointer (some ⟨q,0,none⟩),.string ⟨#[5,0,0,0,12,115,115,104,45,117,115,101,114,97,117,116,104]⟩] w7 (Bi w w.heap.size g w6.heap.size hi q bg A9 c9 c.gr A8 c8 c.al 1 n6 (aM ⟨#[115]⟩) T6 S6 w7 (⟨1,0⟩,⟨mZ,none,none⟩)) from by
  have h9:=xN an.out ⟨#[5,0,0,0,12,115,115,104,45,117,115,101,114,97,117,116,104]⟩ Z2 (by simp at bd;omega) Z2 Z2 a9 hal (O5 Z2);rw [show (⟨#[5,0,0,0,12,115,115,104,45,117,115,101,114,97,117,116,104]⟩:ByteArray).data.toList=TR from rfl,SQ] at h9
  exact h9)
 clear R G u I a7 F P af nb
 try simp only [Act.put,J0,JT,Y0]
 go_wp2_with fail;refine ao.out.mono ?_;rintro e w8 ⟨T8,S8,ov,ev,er,rfl,ho,hv,hr,b0,hl8,a0,_⟩;obtain ⟨b8,rfl,bo⟩:=ho.2 Z2;have b4:ev=.slice none 0 0:=hv;subst b4;have b3:er=.nilIface:=hr;subst b3;have b6:T6.length<=1:=by simpa using bd
 have av:bs ([50]++bI (ji [110,111,110,101]))=(⟨#[50,0,0,0,3,97,110,110,0,0,0,14,115,115,104,45,99,111,110,110,101,99,116,105,111,110,0,0,0,4,110,111,110,101]⟩:ByteArray):=Z1
 have HT2:=hide (show Calls prog 21 #[.pointer (some ⟨q,0,none⟩),.string ⟨#[50,0,0,0,3,97,110,110,0,0,0,14,115,115,104,45,99,111,110,110,101,99,116,105,111,110,0,0,0,4,110,111,110,101]⟩] w8 (Uc w w.heap.size g w6.heap.size hi q bg A9 c9 c.gr A8 c8 c.al 1 n6 (aM ⟨#[115]⟩) T8 0) from by
  have h9:=Pf (i:=0) (lim:=1) (m:=[110,111,110,101]) (show di w w.heap.size g w6.heap.size hi q bg A9 c9 c.gr A8 c8 c.al 1 n6 (aM ⟨#[115]⟩) T8 S8 (jU 1 0) w8 from a0) Z2 Z2 Z2 Z0 a9 hal;rw [av] at h9
  exact h9)
 clear av ho hv hr b0 hl8 a0 bo ao an;go_wp2_with fail;refine HT2.out.mono ?_;rintro e w9 ⟨T9,S9,b7,bn,rfl,bw,ab,bt,Q⟩
 have bj:aZ w9 bn [bZ,kQ] 12:=by
  rw [show KA 1 0=some ([bZ,kQ],12) from Z1] at ab;exact ab
 obtain ⟨b9,v9,rfl,aE,bb⟩:=bj
 have O:aZ w9 (aK b9) [bZ,kQ] 12:=⟨b9,v9,rfl,aE,bb⟩
 have ap:=hide (show Calls prog 20 #[aK b9,.agg #[.int .i64 12,.string ⟨#[97,117,116,104,115,32,108,105,109,105,116,32]⟩]] w9 (fun e w'=>e=.returned (.bool true)/\Below w9.heap.size w9 w') from pY (b:=b9) (ps:=[bZ,kQ]) (k:=12) Z2 Z2 Z2 O ((HV.out _ Q.pay.bel).2.2));have aq:=hide Q.pay.bel;clear bw ab bt Q aE bb O HT2 HV;unfold aK at ap ⊢;go_wp2_with fail;refine ap.out.mono ?_;rintro e ca ⟨rfl,a6⟩;go_wp2_with fail;go_ret;exact ⟨rfl,aq.out.trans (a6.mono aq.out.size)⟩
end
end Go.Proofs.YtnhekaepgpbijaaGreatDoor
namespace Go.Proofs.YtnhekaepgpbijaaGreatDoor
open Go.Proofs.Tryz Go.RowKit
variable {p:List UInt8} {i:Nat}
theorem PI:forms ((50:Nat):Int)=[⟨#[115,115,115]⟩,⟨#[115,115,115,98,115,116]⟩,⟨#[115,115,115,98,115,116,116]⟩]:=Z1
theorem Sk:forms ((5:Nat):Int)=[⟨#[115]⟩]:=Z1
theorem CK {n:Nat} {l:List Fld} (h:dC p=.ok n l):∃f∈forms (n:Int),f.data.toList.length=l.length/\l.map (·.k)=f.data.toList.map (·.toNat)/\∀x∈l,okF x:=by
 obtain ⟨he,hp⟩:=IK h;unfold encS at he
 split at he
 ·rename_i q
  obtain ⟨f1,f2⟩:=oM q;have g:l.length=(fit (n:Int) l.length).1.data.toList.length:=f2.symm.trans (aC _);obtain ⟨j,o,r,_⟩:=tY g he;exact ⟨_,f1,g.symm,j,o⟩
 ·cases he
theorem Tz {l:List Fld} (h:dC p=.ok 5 l):l.length=1:=by
 obtain ⟨f,g,j,_⟩:=CK h;rw [Sk] at g;simp only [Ym] at g;subst g;exact j.symm
theorem GM {l:List Fld} {f:List UInt8} (p:l.length=f.length) (o:l.map (·.k)=f.map (·.toNat)) (q:∀x∈l,okF x) {c:UInt8} (hi:f[i]?=some c):(atF l i).k=c.toNat/\okF (atF l i):=by
 have g:i<l.length:=by
  rw [p];exact (Yx.1 hi).1
 have j:atF l i=l[i]:=by unfold atF;rw [Y1 g];rfl
 have h:(l.map (·.k))[i]?=(f.map (·.toNat))[i]?:=by rw [o]
 rw [Yt,Yt,hi,Y1 g] at h;rw [j];exact ⟨Y9 h,q _ (Yf g)⟩
theorem uJ {l:List Fld} {k:Nat} (h:(atF l i).k=k/\okF (atF l i)) (j:cntF k=1):atF l i=⟨k,0,(atF l i).s,[]⟩:=by
 have g:=qC h.2.1 (by rw [h.1];exact j);rw [h.1] at g;exact g
theorem NK {l:List Fld} (h:dC p=.ok 50 l):l.length=3\/((l.length=6\/l.length=7)/\atF l 4=⟨115,0,(atF l 4).s,[]⟩/\atF l 5=⟨116,0,(atF l 5).s,[]⟩):=by
 obtain ⟨f,q,g,j,o⟩:=CK h;rw [PI] at q;simp only [Yz,List.not_mem_nil,or_false] at q;rcases q with rfl | rfl | rfl
 ·exact .inl g.symm
 ·exact .inr ⟨.inl g.symm,uJ (GM (f:=[115,115,115,98,115,116]) g.symm j o (i:=4) rfl) rfl,uJ (GM (f:=[115,115,115,98,115,116]) g.symm j o (i:=5) rfl) rfl⟩
 ·exact .inr ⟨.inr g.symm,uJ (GM (f:=[115,115,115,98,115,116,116]) g.symm j o (i:=4) rfl) rfl,uJ (GM (f:=[115,115,115,98,115,116,116]) g.symm j o (i:=5) rfl) rfl⟩
def Pb (gr:List (List UInt8 × Int)) (al:List (List UInt8)) (sid:Option Tm) (l:List Fld) (x:Nat × List UInt8 × List UInt8):Prop :=
 l.length=7/\x=(fC (ofT (atF l 5).s),(atF l 0).s,(atF l 4).s)/\(atF l 1).s=dn/\nM gr al (atF l 0).s (atF l 4).s (ofT (atF l 5).s)=true/\qR sid (atF l 0).s (atF l 1).s (atF l 4).s (ofT (atF l 5).s) (ofT (atF l 6).s)
structure EU (P:Nat × List UInt8 × List UInt8->Prop) (lim:Int) (s:SvS) (r:SvS × jZ):Prop where
 fl:r.2.err=none->(r.1.fl:Int)<lim
 fle:(r.1.fl:Int)<=lim
 ph:r.2.err=none->r.2.ev=none->(r.1.ph=2->s.ph=2)/\(r.1.ph<=1->s.ph<=1)
 ev:∀x,r.2.ev=some x->r.2.err=none/\s.ph=1/\r.1=⟨2,s.fl⟩/\P x
section
variable {P : Nat × List UInt8 × List UInt8 -> Prop} {lim : Int} {s : SvS} {gr : List (List UInt8 × Int)} {al : List (List UInt8)} {sid : Option Tm} {l : List Fld}
theorem jB (g:(s.fl:Int)<=lim) (ps:List (List UInt8)) (k:Int):EU P lim s (bC s ps k) :=
 ⟨fun h=>ZM,g,fun h=>ZM,fun x h=>ZM⟩
theorem xy (g:(s.fl:Int)<lim) (out:List UInt8):EU P lim s (s,⟨out,none,none⟩) :=
 ⟨fun _=>g,Int.le_of_lt g,fun _ _=>⟨id,id⟩,fun x h=>ZM⟩
theorem mY (g:(s.fl:Int)<lim):EU P lim s (aP lim s):=by
 unfold aP
 split
 ·exact ⟨fun h=>ZM,(by show (((s.fl+1:Nat)):Int)<=lim;omega),fun h=>ZM,fun x h=>ZM⟩
 ·exact ⟨fun _=>(by show (((s.fl+1:Nat)):Int)<lim;omega),(by show (((s.fl+1:Nat)):Int)<=lim;omega),fun _ _=>⟨id,id⟩,fun x h=>ZM⟩
theorem KM (g:(s.fl:Int)<lim):EU P lim s (gF s l):=by
 unfold gF
 split
 ·exact xy g _
 ·split
  ·exact jB (Int.le_of_lt g) _ _
  ·exact xy g _
theorem SH (g:(s.fl:Int)<lim) (j:s.ph=1) (p:(atF l 1).s=dn):EU (Pb gr al sid l) lim s (gU gr al lim sid s l):=by
 unfold gU
 split
 ·exact mY g
 ·rename_i r
  split
  ·exact mY g
  ·split
   ·exact jB (Int.le_of_lt g) _ _
   ·split
    ·exact mY g
    ·rename_i q
     unfold jO
     split
     ·exact KM g
     ·rename_i o
      split
      ·rename_i hs
       refine ⟨fun _=>g,Int.le_of_lt g,fun _ h=>ZM,fun x h=>?_⟩;cases h
       refine ⟨rfl,j,rfl,?_,rfl,p,(by simpa using q),hs⟩;rcases Decidable.not_and_iff_or_not.1 r with h9 | h9
       ·exact absurd (Decidable.not_not.1 h9) o
       ·exact Decidable.not_not.1 h9
      ·exact mY g
theorem Ny (g:(s.fl:Int)<lim) (num:Nat):EU (fun x=>num=50/\Pb gr al sid l x) lim s (jS gr al lim sid s num l):=by
 unfold jS
 split
 ·rename_i o
  split
  ·exact ⟨fun _=>g,Int.le_of_lt g,fun _ _=>⟨fun h=>ZM,fun _=>(by rw [o.2];exact Yb _)⟩,fun x h=>ZM⟩
  ·exact jB (Int.le_of_lt g) _ _
 ·split
  ·exact xy g _
  ·split
   ·rename_i j
    split
    ·exact jB (Int.le_of_lt g) _ _
    ·rename_i p
     have h:=SH (gr:=gr) (al:=al) (sid:=sid) g j.2 (Decidable.not_not.1 p);exact ⟨h.fl,h.fle,h.ph,fun x q=>let ⟨a,b,c,d⟩:=h.ev x q;⟨a,b,c,j.1,d⟩⟩
   ·exact jB (Int.le_of_lt g) _ _
structure RU (lim:Int) (s:SvS) (many:Nat):Prop where
 fle:(s.fl:Int)<=lim
 fl:s.ph≠3->(s.fl:Int)<lim
 m1:many<=1
 no:s.ph<=1->many=0
theorem rG {r:SvS × jZ} (h:EU P lim s r):((aU r).1.fl:Int)<=lim/\((aU r).1.ph≠3->((aU r).1.fl:Int)<lim)/\((aU r).2.ev=none->(((aU r).1.ph=2->s.ph=2)/\((aU r).1.ph<=1->s.ph<=1)))/\∀x,(aU r).2.ev=some x->s.ph=1/\(aU r).1=⟨2,s.fl⟩/\P x:=by
 obtain ⟨s1,out,ev,err⟩:=r
 cases err with
 | none =>
  exact ⟨h.fle,fun _=>h.fl rfl,fun h9=>h.ph rfl h9,fun x h9=>(h.ev x h9).2⟩
 | some e =>
  obtain ⟨ps,k⟩:=e;exact ⟨h.fle,fun h9=>absurd rfl h9,fun _=>⟨fun h9=>YP,fun h9=>absurd h9 (show ¬ (3:Nat)<=1 by decide)⟩,fun x h9=>YP⟩
theorem O1 {many:Nat} (h:RU lim s many) (p:List UInt8) :
  (((dS gr al lim sid s p).2.ev=none/\RU lim (dS gr al lim sid s p).1 many/\((dS gr al lim sid s p).1.ph=2->s.ph=2)) \/
   (∃x,(dS gr al lim sid s p).2.ev=some x/\s.ph=1/\many=0/\RU lim (dS gr al lim sid s p).1 1/\(dS gr al lim sid s p).1=⟨2,s.fl⟩/\(s.fl:Int)<lim/\∃l,dC p=.ok 50 l/\Pb gr al sid l x)):=by
 have key:∃Q:Nat × List UInt8 × List UInt8->Prop,(∀x,Q x->∃l,dC p=.ok 50 l/\Pb gr al sid l x)/\((dS gr al lim sid s p).1.fl:Int)<=lim/\((dS gr al lim sid s p).1.ph≠3->((dS gr al lim sid s p).1.fl:Int)<lim)/\((dS gr al lim sid s p).2.ev=none->(((dS gr al lim sid s p).1.ph=2->s.ph=2)/\((dS gr al lim sid s p).1.ph<=1->s.ph<=1)))/\∀x,(dS gr al lim sid s p).2.ev=some x->s.ph=1/\(dS gr al lim sid s p).1=⟨2,s.fl⟩/\Q x:=by
  unfold dS
  split
  ·exact ⟨fun _=>False,fun _ h9=>h9.elim,rG (jB h.fle _ _)⟩
  ·rename_i g
   have w:=h.fl g
   cases hd:dC p with
   | ok num l =>
    exact ⟨fun x=>num=50/\Pb gr al sid l x,fun x h9=>(by obtain ⟨rfl,h8⟩:=h9;exact ⟨l,rfl,h8⟩),rG (Ny w num)⟩
   | all e =>
    refine ⟨fun _=>False,fun _ h9=>h9.elim,?_⟩;simp only
    split <;> exact rG (jB h.fle _ _)
   | bad num R =>
    refine ⟨fun _=>False,fun _ h9=>h9.elim,?_⟩;simp only
    split <;> exact rG (jB h.fle _ _)
 obtain ⟨Q,v,o,q,r,z⟩:=key
 cases he:(dS gr al lim sid s p).2.ev with
 | none=>exact .inl ⟨rfl,⟨o,q,h.m1,fun h9=>h.no ((r he).2 h9)⟩,(r he).1⟩
 | some x =>
  obtain ⟨u,j,g⟩:=z x he;exact .inr ⟨x,rfl,u,h.no Z0,⟨o,q,Y2 _,fun h9=>(by rw [j] at h9;exact absurd h9 (show ¬ (2:Nat)<=1 by decide))⟩,j,h.fl Z0,v x g⟩
end
end Go.Proofs.YtnhekaepgpbijaaGreatDoor
namespace Go.Proofs.YtnhekaepgpbijaaGreatDoor
open Go.Proofs.Tryz Go.RowKit Go.ChangeShapes Go.WideShapes Go.Sort
theorem K7 {w0 W:World} {B g lo hi j q:Nat} {A9 A8:Option Addr} {c9 c8:Nat} {gr:List (List UInt8 × Int)} {al:List (List UInt8)} {lim n:Int} {sid:Option Tm} {T:List Tm} {S:Nat->Prop} {s:SvS} (h:di w0 B g lo hi j q A9 c9 gr A8 c8 al lim n sid T S s W) (pl:ByteArray) (p:pl.size<=3000) (u:T.length<=700000) (v:s.ph≠3->(s.fl:Int)<lim) (w:s.fl<=1000) (o:gr.length<=1000) (hal:al.length<=1000) :
  Calls prog 21 #[.pointer (some ⟨j,0,none⟩),.string pl] W (Bi w0 B g lo hi j q A9 c9 gr A8 c8 al lim n sid T S W (dS gr al lim sid s pl.data.toList)):=by
 by_cases r:s.ph=3
 ·exact ow h pl r
 ·exact xN h pl Z0 u (v r) w o hal (O5 (by rw [aC];exact p))
def zU (i:Nat):Nat:=20000+30000*i
theorem LQ (i:Nat):zU (i+1)=zU i+30000:=by unfold zU;omega
theorem Ol {i:Nat} (h:i<=20):zU i<=620000:=by unfold zU;omega
theorem QA:(prog.info? 69).map (·.size)=some 34:=Z1
end Go.Proofs.YtnhekaepgpbijaaGreatDoor
namespace Go.Proofs.YtnhekaepgpbijaaGreatDoor
open Go.Proofs.Tryz Go.RowKit
theorem Uo {o:Option Tm} (u:bD o) (hp:iM o=true):o=pI (lh (fC o:Nat)):=by
 cases o with
 | none=>cases hp
 | some t =>
  have p:t.k=4:=by simpa [iM] using hp
  have j:=(u t rfl).1;obtain ⟨c,q,h,g⟩:=AA j p;obtain ⟨k,a,b,s,l⟩:=t;simp only [Tm.k,Tm.l] at p q;subst p q;obtain ⟨z,a2,b2,A,v⟩:=c;simp only [Tm.k] at g;subst g;simp only [good,hd] at j h;obtain ⟨⟨rfl,rfl,_,rfl⟩,_⟩:=j;obtain ⟨⟨w,rfl,r,rfl⟩,_⟩:=h;obtain rfl:v=[]:=Yc r;have hw:fC (some (Tm.mk 4 0 0 ⟨#[]⟩ [Tm.mk 3 a2 0 ⟨#[]⟩ []]))=a2:=rfl;rw [hw];unfold lh;rw [Y6 (by unfold okN;rw [YF,Yw,Yw];omega)];rfl
end Go.Proofs.YtnhekaepgpbijaaGreatDoor
