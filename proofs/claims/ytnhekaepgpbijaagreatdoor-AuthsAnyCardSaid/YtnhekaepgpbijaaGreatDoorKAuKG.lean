/- Several of my texts in one: AuP, AuM, AuH, AuG, AuR, AuD, AuK, AuA, AuQ, AuI, AuJ, AuEp. -/
import Derived.Test.YtnhekaepgpbijaaGreatDoorKAli
import Derived.Test.YtnhekaepgpbijaaGreatDoorKKxPGG
import Derived.Test.YtnhekaepgpbijaaGreatDoorKSignCG
import Derived.Test.YtnhekaepgpbijaaGreatDoorKDecWG
import Derived.Test.YtnhekaepgpbijaaGreatDoorKCfAoG
import Derived.Test.YtnhekaepgpbijaaGreatDoorKCfKG
import Derived.BigGuardPart
import Derived.Deep.RegionHeld3
import Derived.WalkMore
import Derived.Deep.MidRow
import Derived.Test.YtnhekaepgpbijaaGreatDoorKPrfGG
set_option linter.unusedVariables false
set_option linter.unusedSimpArgs false
set_option maxHeartbeats 40000000
set_option maxRecDepth 100000
namespace Go.Proofs.YtnhekaepgpbijaaGreatDoor
open Go.Proofs.Tryz Go.RowKit
structure SvS where
 ph:Nat
 fl:Nat
structure jZ where
 out:List UInt8
 ev:Option (Nat × List UInt8 × List UInt8)
 err:Option (List (List UInt8) × Int)
def bZ:List UInt8:=[97,117,116,104,115]
def fH:List UInt8:=[115,101,114,118,105,99,101]
def kQ:List UInt8:=[108,105,109,105,116]
def nC:List UInt8:=[115,105,103,110,101,100]
def fT:List UInt8:=[115,115,104,45,117,115,101,114,97,117,116,104]
def dn:List UInt8:=[115,115,104,45,99,111,110,110,101,99,116,105,111,110]
def fM:List UInt8:=[112,117,98,108,105,99,107,101,121]
def mZ:List UInt8:=[6,0,0,0,12,115,115,104,45,117,115,101,114,97,117,116,104]
def nE:List UInt8:=[51,0,0,0,9,112,117,98,108,105,99,107,101,121,0]
theorem xw:encS 6 [⟨115,0,fT,[]⟩]=.ok mZ:=Z1
theorem uX:encS 51 [⟨110,0,[],[fM]⟩,⟨98,0,[],[]⟩]=.ok nE:=Z1
theorem uw:encS 52 []=.ok [52]:=Z1
def bC (s:SvS) (ps:List (List UInt8)) (k:Int):SvS × jZ:=(s,⟨[],none,some (ps,k)⟩)
def aU (r:SvS × jZ):SvS × jZ:=match r.2.err with
 | none=>r
 | some (ps,k)=>(⟨3,r.1.fl⟩,⟨[],none,some (bZ :: ps,k)⟩)
def aP (lim:Int) (s:SvS):SvS × jZ:=if lim<=(s.fl+1:Nat) then bC ⟨s.ph,s.fl+1⟩ [kQ] 12 else (⟨s.ph,s.fl+1⟩,⟨nE,none,none⟩)
def nM (gr:List (List UInt8 × Int)) (al:List (List UInt8)) (user alg:List UInt8) (key:Option Tm):Bool :=
 iM key && (decide (alg∈al) && decide ((user,(fC key:Int))∈gr))
def atF (l:List Fld) (i:Nat):Fld:=(l[i]?).getD ⟨0,0,[],[]⟩
def qR (sid:Option Tm) (user service alg:List UInt8) (key sig:Option Tm):Prop :=
 pG (iM key=false) (sig=none\/sig≠lU sid (bs user) (bs service) (bs alg) (fC key))=⟨#[]⟩
def gF (s:SvS) (l:List Fld):SvS × jZ:=match encS 60 [⟨115,0,(atF l 4).s,[]⟩,⟨116,0,(atF l 5).s,[]⟩] with
 | .ok b=>(s,⟨b,none,none⟩)
 | r=>match ic 60 r with
  | some (ps,k)=>bC s ps (k:Nat)
  | none=>(s,⟨[],none,none⟩)
open Classical in
noncomputable def jO (lim:Int) (sid:Option Tm) (s:SvS) (l:List Fld) (many:Nat):SvS × jZ :=
 if many=6 then gF s l
 else if qR sid (atF l 0).s (atF l 1).s (atF l 4).s (ofT (atF l 5).s) (ofT (atF l 6).s) then
  (⟨2,s.fl⟩,⟨[52],some (fC (ofT (atF l 5).s),(atF l 0).s,(atF l 4).s),none⟩)
 else aP lim s
noncomputable def gU (gr:List (List UInt8 × Int)) (al:List (List UInt8)) (lim:Int) (sid:Option Tm) (s:SvS) (l:List Fld):SvS × jZ :=
 if l.length≠6/\l.length≠7 then aP lim s
 else if (atF l 2).s≠fM then aP lim s
 else if (atF l 3).n≠(l.length:Int) - 6 then bC s [nC] 3
 else if nM gr al (atF l 0).s (atF l 4).s (ofT (atF l 5).s)=false then aP lim s
 else jO lim sid s l l.length
noncomputable def jS (gr:List (List UInt8 × Int)) (al:List (List UInt8)) (lim:Int) (sid:Option Tm) (s:SvS) (num:Nat) (l:List Fld):SvS × jZ :=
 if num=5/\s.ph=0 then (if (atF l 0).s=fT then (⟨1,s.fl⟩,⟨mZ,none,none⟩) else bC s [fH] 13)
 else if num=50/\s.ph=2 then (s,⟨[],none,none⟩)
 else if num=50/\s.ph=1 then (if (atF l 1).s≠dn then bC s [fH] 13 else gU gr al lim sid s l)
 else bC s [] 7
noncomputable def dS (gr:List (List UInt8 × Int)) (al:List (List UInt8)) (lim:Int) (sid:Option Tm) (s:SvS) (p:List UInt8):SvS × jZ :=
 aU <| if s.ph=3 then bC s [] 7
 else match dC p with
  | .ok num l=>jS gr al lim sid s num l
  | r=>match fu r with
   | some (ps,k)=>bC s ps k
   | none=>bC s [] 7
end Go.Proofs.YtnhekaepgpbijaaGreatDoor
namespace Go.Proofs.YtnhekaepgpbijaaGreatDoor
open Go.Proofs.Tryz Go.RowKit Go.ChangeShapes Go.WideShapes Go.Sort
variable {alg user:List UInt8} {key:Option Tm} {p_:Prop} {k nk num:Int} {a1 a2 er o p q u v z:Value} {ps:List (List UInt8)} {A:Option Addr} {c i:Nat} {l:List Fld} {j:Oper} {t:TypeId} {rest:List Oper} {a:Act} {Q:Exit->Act->World->Prop}
def Jd (lo hi:Nat) (S:Nat->Prop):Prop:=∀i,S i->i<lo\/hi<=i
theorem Jd.no {lo hi:Nat} {S:Nat->Prop} (h:Jd lo hi S) {b:Nat} (p:lo<=b) (q:b<hi):¬ S b:=fun j=>by
 rcases h b j with o | o <;> omega
theorem Jd.grown {lo hi:Nat} {S S':Nat->Prop} {w w':World} (h:Jd lo hi S) (p:Grown S w S' w') (q:hi<=w.heap.size):Jd lo hi S':=fun i o=>by
 rcases p.new i o with j | j
 ·exact h i j
 ·right
  omega
structure di (w0:World) (B g lo hi bs_ bg:Nat) (A9:Option Addr) (c9:Nat) (gr:List (List UInt8 × Int)) (A8:Option Addr) (c8:Nat) (al:List (List UInt8)) (lim n:Int) (sid:Option Tm) (T:List Tm) (S:Nat->Prop) (s:SvS) (W:World):Prop where
 pay:Pay w0 B g T S W
 zone:Jd lo hi S
 hiw:hi<=W.heap.size
 lo0:B<=lo
 los:lo<=bs_
 his:bs_<hi
 log:lo<=bg
 hig:bg<hi
 ne:bs_≠bg
 sb:Blk W bs_ 137 #[.pointer (some ⟨g,0,none⟩),.int .i64 n,.pointer (some ⟨bg,0,none⟩),.int .i64 s.ph]
 gb:Blk W bg 201 #[.slice A9 gr.length c9,.slice A8 al.length c8,.int .i64 lim,.int .i64 s.fl]
 r9:W.ownsRow lo 158 2 (.slice A9 gr.length c9) gr.length (jQ gr)
 r8:W.ownsRow lo 9 1 (.slice A8 al.length c8) al.length ((bss al).map Value.string)
 h9:∀i,(Value.slice A9 gr.length c9).ownBlock=some i->i<hi
 h8:∀i,(Value.slice A8 al.length c8).ownBlock=some i->i<hi
 id:Idn T sid n
section
variable {w0 W W' : World} {B g lo hi bs_ bg : Nat} {A9 A8 : Option Addr} {c9 c8 : Nat} {gr : List (List UInt8 × Int)} {al : List (List UInt8)} {lim n : Int} {sid : Option Tm} {T T' : List Tm} {S S' : Nat -> Prop} {s : SvS}
theorem di.below (h:di w0 B g lo hi bs_ bg A9 c9 gr A8 c8 al lim n sid T S s W) (j:Below W.heap.size W W'):di w0 B g lo hi bs_ bg A9 c9 gr A8 c8 al lim n sid T S s W' :=
 { h with pay:=h.pay.below j,hiw:=Yg h.hiw j.size,sb:=h.sb.below j h.sb.lt,gb:=h.gb.below j h.gb.lt,r9:=h.r9.kept (ag j none) (by cases (Value.slice A9 gr.length c9).ownBlock <;> simp),r8:=h.r8.kept (ag j none) Xn }
theorem di.grown (h:di w0 B g lo hi bs_ bg A9 c9 gr A8 c8 al lim n sid T S s W) (j:Grown S W S' W') (o:Pay w0 B g T' S' W') (hp:T <+: T'):di w0 B g lo hi bs_ bg A9 c9 gr A8 c8 al lim n sid T' S' s W' :=
 { h with pay:=o,zone:=h.zone.grown j h.hiw,hiw:=Yg h.hiw j.size,sb:=j.outs.blk h.sb (h.zone.no h.los h.his),gb:=j.outs.blk h.gb (h.zone.no h.log h.hig),r9:=j.outs.own h.r9 (fun i hi=>h.zone.no (h.r9.lt i hi).1 (h.h9 i hi)),r8:=j.outs.own h.r8 (fun i hi=>h.zone.no (h.r8.lt i hi).1 (h.h8 i hi)),id:=h.id.pre hp }
theorem di.row (h:di w0 B g lo hi bs_ bg A9 c9 gr A8 c8 al lim n sid T S s W) {b:Nat} (k:W.grownBy W' (some b)) (o:¬ S b) (j:B<=b) (p:hi<=b):di w0 B g lo hi bs_ bg A9 c9 gr A8 c8 al lim n sid T S s W' :=
 { h with pay:=h.pay.kept k o j,hiw:=Yg h.hiw k.size,sb:=h.sb.grown k (fun e=>by have:=Y9 e;have:=h.his;omega),gb:=h.gb.grown k (fun e=>by have:=Y9 e;have:=h.hig;omega),r9:=h.r9.kept k (.inr (fun e=>by have:=h.h9 _ e;omega)),r8:=h.r8.kept k (.inr (fun e=>by have:=h.h8 _ e;omega)) }
theorem di.setPh (h:di w0 B g lo hi bs_ bg A9 c9 gr A8 c8 al lim n sid T S s W) {ph:Nat} (k:W.grownBy W' (some bs_)) (j:Blk W' bs_ 137 #[.pointer (some ⟨g,0,none⟩),.int .i64 n,.pointer (some ⟨bg,0,none⟩),.int .i64 ph]):di w0 B g lo hi bs_ bg A9 c9 gr A8 c8 al lim n sid T S ⟨ph,s.fl⟩ W' :=
 { h with pay:=h.pay.kept k (h.zone.no h.los h.his) (Yg h.lo0 h.los),hiw:=Yg h.hiw k.size,sb:=j,gb:=h.gb.grown k (fun e=>h.ne (Y9 e).symm),r9:=h.r9.kept k (.inr (bf h.r9 h.sb Z2)),r8:=h.r8.kept k (.inr (bf h.r8 h.sb Z2)) }
theorem di.setFl (h:di w0 B g lo hi bs_ bg A9 c9 gr A8 c8 al lim n sid T S s W) {fl:Nat} (k:W.grownBy W' (some bg)) (j:Blk W' bg 201 #[.slice A9 gr.length c9,.slice A8 al.length c8,.int .i64 lim,.int .i64 fl]):di w0 B g lo hi bs_ bg A9 c9 gr A8 c8 al lim n sid T S ⟨s.ph,fl⟩ W' :=
 { h with pay:=h.pay.kept k (h.zone.no h.log h.hig) (Yg h.lo0 h.log),hiw:=Yg h.hiw k.size,gb:=j,sb:=h.sb.grown k (fun e=>h.ne (Y9 e)),r9:=h.r9.kept k (.inr (bf h.r9 h.gb Z2)),r8:=h.r8.kept k (.inr (bf h.r8 h.gb Z2)) }
end
def SB (b1 b2:Nat) (S:Nat->Prop) (i:Nat):Prop:=S i\/i=b1\/i=b2
section
variable {w w' : World} {S S' : Nat -> Prop} {b1 b2 : Nat}
theorem Grown.sb (h:Grown S w S' w') (b1 b2:Nat):Grown (SB b1 b2 S) w (SB b1 b2 S') w' :=
 ⟨h.os,h.tape,h.output,h.size,fun i hi o=>h.block i hi (fun j=>o (.inl j)),fun i hi=>hi.imp (h.sub i) id,fun i hi=>by
  rcases hi with hi | hi
  ·exact (h.new i hi).imp .inl id
  ·exact .inl (.inr hi)⟩
theorem UH (h:w.grownBy w' (some b1)):Grown (SB b1 b2 S) w (SB b1 b2 S) w' :=
 ⟨h.os,h.tape,h.output,h.size,fun i hi j=>h.block i hi (fun e=>j (.inr (.inl (Y9 e)))),fun _ h=>h,fun _ h=>.inl h⟩
theorem Vu (h:w.grownBy w' (some b2)):Grown (SB b1 b2 S) w (SB b1 b2 S) w' :=
 ⟨h.os,h.tape,h.output,h.size,fun i hi j=>h.block i hi (fun e=>j (.inr (.inr (Y9 e)))),fun _ h=>h,fun _ h=>.inl h⟩
def ErV (w:World) (o:Option (List (List UInt8) × Int)) (v:Value):Prop:=match o with
 | none=>v=.nilIface
 | some (ps,k)=>aZ w v ps k
end
theorem Iw {gr:List (List UInt8 × Int)} {al:List (List UInt8)} (h:iM key=false):nM gr al user alg key=false:=by unfold nM;rw [h];rfl
theorem IJ {gr:List (List UInt8 × Int)} {al:List (List UInt8)} (h:decide (alg∈al)=false):nM gr al user alg key=false:=by unfold nM;rw [h];simp
theorem IR {gr:List (List UInt8 × Int)} {al:List (List UInt8)} (h:iM key=true) (g:decide (alg∈al)=true):nM gr al user alg key=decide ((user,(fC key:Int))∈gr):=by unfold nM;rw [h,g];rfl
section
variable {W : World} {A9 A8 : Option Addr} {c9 c8 : Nat} {gr : List (List UInt8 × Int)} {al : List (List UInt8)}
theorem zze9e (h_:p_:=by
 rcases Nat.lt_succ_iff_lt_or_eq.1 h9 with h8 | h8
 ·exact Hno.out j hj h8
 ·subst h8
  rw [Hpr.out];intro h7;cases h7
  exact e2 rfl):p_:=h_
theorem zz854 (h_:p_:=by
 rcases Nat.lt_succ_iff_lt_or_eq.1 h9 with h8 | h8
 ·exact Hno.out j hj h8
 ·subst h8
  rw [Hpr.out];intro h7;cases h7
  exact e1 rfl):p_:=h_
theorem mF (h9:GrC W A9 gr) (h8:Txs W (.slice A8 al.length c8) al) (I:bD key) (user alg:List UInt8) (L:gr.length<=1000) (hal:al.length<=1000) :
  Calls prog 114 #[.slice A9 gr.length c9,.slice A8 al.length c8,.string (bs user),.string (bs alg),.string (bs (txt key))] W (fun e w'=>e=.returned (.bool (nM gr al user alg key))/\Below W.heap.size W w'):=by
 have HO:=hide (show Calls prog 116 #[.string (bs (txt key))] W (fun e w'=>e=.returned (.tuple #[.int .i64 (fC key),.bool (iM key)])/\Below W.heap.size W w') from qy I W);have h:=hide (fun (K:World) (hb:Below W.heap.size W K)=>vO (h8.below hb) Z0 alg);have J:=hide h9;generalize bs (txt key)=kx at HO ⊢;clear h9 h8 I
 cases hp:iM key with
 | false =>
  rw [Iw hp];rw [hp] at HO;go_enter func114,ntmps114;exact zz4cc
 | true =>
  rw [hp] at HO
  cases u:decide (alg∈al) with
  | false =>
   rw [IJ u];rw [u] at h;go_enter func114,ntmps114;go_wp2_with fail;refine HO.out.mono ?_;rintro e w1 ⟨rfl,hb1⟩;go_wp2_with fail;refine (h.out _ hb1).mono ?_;rintro e w2 ⟨rfl,rfl⟩;go_wp2_with fail;go_ret;exact ⟨rfl,hb1⟩
  | true =>
   rw [IR hp u];rw [u] at h;generalize (fC key:Nat)=g at HO ⊢;clear hp u;go_enter func114,ntmps114;go_wp2_with fail;refine HO.out.mono ?_;rintro e w1 ⟨rfl,hb1⟩;go_wp2_with fail;refine (h.out _ hb1).mono ?_;rintro e w2 ⟨rfl,rfl⟩;have w:=hide hb1;clear HO h hb1;go_wp2_with fail
   go_loopw [13] (fun G wr=>wr=w2/\∃i:Nat,G=.int .i64 i/\i<=gr.length/\∀j,(hj:j<gr.length)->j<i->gr[j]≠(user,(g:Int))) (fun G _=>gr.length - (intOf G).toNat)
   case atStart=>exact ⟨rfl,0,rfl,Yb _,fun j _ h9=>Z0⟩
   case round =>
    obtain ⟨rfl,i,rfl,N,o⟩:=hrel;have v:=w.out;have Hno:=hide o
    by_cases q:i<gr.length
    ·have F:(i:Int)<gr.length:=by omega
     obtain ⟨z,rfl,hab,A,B⟩:=J.out i q;have A:=(v.cell (p:=z.add (i*2)) X8).trans A;have B:=(v.cell (p:=⟨(z.add (i*2)).block,(z.add (i*2)).off+1,none⟩) X8).trans B;have Hpr:=hide (show gr[i]=(gr[i].1,gr[i].2) from rfl);generalize gr[i].1=C at A Hpr;generalize gr[i].2=D at B Hpr
     by_cases e1:C=user
     ·have x1:((bs C).toList == (bs user).toList)=true:=by rw [e1];simp
      by_cases e2:D=g
      ·have x2:(D == (g:Int))=true:=by rw [e2];simp
       have r:=hide (show decide ((user,(g:Int))∈gr)=true from Y8 (by rw [<-e1,<- e2,<- Hpr.out];exact Yf q));clear o e1 e2 Hpr;go_wp2_with fail;go_ret;exact ⟨by rw [r.out];rfl,Z4⟩
      ·have x2:(D == (g:Int))=false:=by rw [Y3];exact e2
       have r:=hide (show ∀j,(hj:j<gr.length)->j<i+1->gr[j]≠(user,(g:Int)) from fun j hj h9=>by
        exact zze9e)
       clear o e1 e2 Hpr;go_wp2_with fail;exact ⟨⟨trivial,i+1,Zr,Z0,r.out⟩,Zh⟩
     ·have x1:((bs C).toList == (bs user).toList)=false:=by rw [Y3,ay,ay];exact e1
      have r:=hide (show ∀j,(hj:j<gr.length)->j<i+1->gr[j]≠(user,(g:Int)) from fun j hj h9=>by
       exact zz854)
      clear o e1 Hpr;go_wp2_with fail;exact ⟨⟨trivial,i+1,Zr,Z0,r.out⟩,Zh⟩
    ·obtain rfl:i=gr.length:=by omega
     have F:¬ (gr.length:Int)<gr.length:=Z0
     have r:=hide (show decide ((user,(g:Int))∈gr)=false from Y7 (fun h9=>by
      obtain ⟨j,hj,h8⟩:=YM h9
      exact Hno.out j hj hj h8))
     clear o;go_wp2_with fail;go_ret;exact ⟨by rw [r.out];rfl,Z4⟩
end
section
variable {w : World}
theorem zL {bg:Nat} {lim:Int} {fl:Nat} (c2:w.cell? ⟨bg,2,none⟩=some (.int .i64 lim)) (c3:w.cell? ⟨bg,3,none⟩=some (.int .i64 fl)):Calls prog 291 #[.pointer (some ⟨bg,0,none⟩)] w (fun e w'=>e=.returned (.bool (decide (lim<=(fl:Int))))/\Below w.heap.size w w'):=by
 go_enter func291,ntmps291;go_upto_region 1 with fail;go_quiet (fail);go_wp2_with fail;go_ret;exact ⟨rfl,Z4⟩
theorem LB {bg:Nat} {A9 A8:Option Addr} {F c9 D c8:Nat} {lim:Int} {fl:Nat} (z:Blk w bg 201 #[.slice A9 F c9,.slice A8 D c8,.int .i64 lim,.int .i64 fl]) (L:(fl:Int)<lim) (N:fl<=1000):Calls prog 253 #[.pointer (some ⟨bg,0,none⟩)] w (fun e w'=>e=.returned (.bool (decide (lim<=((fl+1:Nat):Int))))/\w.grownBy w' (some bg)/\Blk w' bg 201 #[.slice A9 F c9,.slice A8 D c8,.int .i64 lim,.int .i64 ((fl+1:Nat):Int)]):=by
 have c2:=z.cell 2;have c3:=z.cell 3;simp only [Jx,Q1,Q2] at c2 c3;have q:=hide (zL c2 c3);rw [Y7 Z0] at q;have HB:=hide z;have K:IntKind.i64.wrap ((fl:Int)+1)=(fl:Int)+1:=Zb;have C:((fl+1:Nat):Int)=(fl:Int)+1:=Z0;rw [C];have G:=hide C;clear C;clear z c2 c3;go_enter func253,ntmps253;go_wp2_with fail;refine q.out.mono ?_;rintro e w1 ⟨rfl,u⟩;have h:=HB.out.below u HB.out.lt;have c3:=h.cell 3;have J:=h.frozen 3;simp only [Jx,Q1,Q2] at c3;have p:=h.set_ 3 (.int .i64 ((fl:Int)+1));simp at p;have I:=hide (show w.grownBy (w1.setCell ⟨bg,3,none⟩ (.int .i64 ((fl:Int)+1))) (some bg) from aj (ag u (some bg)) (ah (az w1 (some bg)) (.inl rfl) _))
 obtain ⟨w2,o⟩:∃W,W=w1.setCell ⟨bg,3,none⟩ (.int .i64 ((fl:Int)+1)):=⟨_,rfl⟩
 have j:Blk w2 bg 201 #[.slice A9 F c9,.slice A8 D c8,.int .i64 lim,.int .i64 ((fl:Int)+1)]:=by rw [o];exact p
 rw [<-o] at I;have A:=j.cell 2;have v:=j.cell 3;simp only [Jx,Q1,Q2] at A v;rw [<-G.out] at v;have r:=hide (zL A v);rw [G.out] at r;have HB3:=hide j;clear h p j A v;go_upto_region 3 with fail;rw [<-o];clear o c3 J;go_wp2_with fail;refine r.out.mono ?_;rintro e w3 ⟨rfl,hb3⟩;go_wp2_with fail;go_ret;exact ⟨rfl,aj I.out (ag hb3 (some bg)),HB3.out.below hb3 HB3.out.lt⟩
theorem EG {bg:Nat} {fl:Nat} (c3:w.cell? ⟨bg,3,none⟩=some (.int .i64 fl)):Calls prog 62 #[.pointer (some ⟨bg,0,none⟩)] w (fun e w'=>e=.returned (.int .i64 fl)/\w=w'):=by
 go_enter func62,ntmps62;go_wp2_with fail;go_ret;exact ⟨rfl,rfl⟩
end
section
variable {w0 W W' : World} {B g lo hi bs_ bg : Nat} {A9 A8 : Option Addr} {c9 c8 : Nat} {gr : List (List UInt8 × Int)} {al : List (List UInt8)} {lim n : Int} {sid : Option Tm} {T T' : List Tm} {S S' : Nat -> Prop} {s : SvS}
theorem CU (h:di w0 B g lo hi bs_ bg A9 c9 gr A8 c8 al lim n sid T S s W) (Q:Idn T key nk) (user alg:List UInt8) (U:gr.length<=1000) (hal:al.length<=1000) :
  Calls prog 189 #[.pointer (some ⟨bg,0,none⟩),.pointer (some ⟨g,0,none⟩),.string (bs user),.string (bs alg),.int .i64 nk] W (fun e w'=>e=.returned (.bool (nM gr al user alg key))/\Below W.heap.size W w'):=by
 have HO:=hide (tZ h.pay.ar Q);have HT:=hide (show Txs W (.slice A8 al.length c8) al from uO h.r8 (by simp [bss]));have r:=hide (fun (W':World) (hb:Below W.heap.size W W')=>Dj (HT.out.below hb) Z0 alg);have R:=hide (R4 h.r9);have c0:=h.gb.cell 0;have c1:=h.gb.cell 1;simp only [Jx,Q1,Q2] at c0 c1;have X:=h.gb.lt;have F:=hide (Y4 c0 c1);clear h Q
 cases hp:iM key with
 | false =>
  rw [Iw hp];rw [hp] at HO;go_enter func189,ntmps189;go_wp2;go_step3
  go_upto_region 2 with (go_at_call 54;refine HO.out.mono ?_;rintro e w1 ⟨rfl,o⟩)
  go_wp2_with fail
  try rw [Exit.noGoto_ret]
  go_ret;exact ⟨rfl,o⟩
 | true =>
  rw [hp] at HO
  cases D:decide (alg∈al) with
  | false =>
   rw [IJ D];rw [D] at r;go_enter func189,ntmps189;go_wp2;go_step3
   go_upto_region 2 with (go_at_call 54;refine HO.out.mono ?_;rintro e w1 ⟨rfl,o⟩)
   have c1:=aA o F.out.2;clear c0;go_wp2_with fail;refine (r.out _ o).mono ?_;rintro e w2 ⟨rfl,rfl⟩;go_wp2_with fail
   try rw [Exit.noGoto_ret]
   go_ret;exact ⟨rfl,o⟩
  | true =>
   rw [IR hp D];rw [D] at r;generalize (fC key:Nat)=q at HO ⊢;clear hp D HT;go_enter func189,ntmps189;go_wp2;go_step3
   go_upto_region 2 with (go_at_call 54;refine HO.out.mono ?_;rintro e w1 ⟨rfl,o⟩)
   have c1:=aA o F.out.2;have c0:=aA o F.out.1;go_wp2_with fail;refine (r.out _ o).mono ?_;rintro e w2 ⟨rfl,rfl⟩;have G:=hide o;clear HO r;go_wp2_with fail;go_step3;go_wp2_with fail;clear c0 c1
   go_loopw [42,13] (fun O Y wr=>∃i:Nat,O=.int .i64 i/\Y=.bool false/\i<=gr.length/\Below W.heap.size W wr/\∀j,(hj:j<gr.length)->j<i->gr[j]≠(user,(q:Int))) (fun O _ _=>gr.length - (intOf O).toNat)
   case atStart=>exact ⟨0,rfl,rfl,Yb _,G.out,fun j _ h9=>Z0⟩
   case round =>
    obtain ⟨i,rfl,rfl,V,A,u⟩:=hrel;have Hno:=hide u
    by_cases v:i<gr.length
    ·have N:(i:Int)<gr.length:=by omega
     obtain ⟨I,rfl,hab,J,K⟩:=R.out i v;have J:=(A.cell (p:=I.add (i*2)) X8).trans J;have K:=(A.cell (p:=⟨(I.add (i*2)).block,(I.add (i*2)).off+1,none⟩) X8).trans K;have Hpr:=hide (show gr[i]=(gr[i].1,gr[i].2) from rfl);generalize gr[i].1=C at J Hpr;generalize gr[i].2=L at K Hpr
     by_cases e1:C=user
     ·have x1:((bs C).toList == (bs user).toList)=true:=by rw [e1];simp
      have P:((bs C).toList != (bs user).toList)=false:=by rw [e1];simp
      by_cases e2:L=q
      ·have x2:(L == (q:Int))=true:=by rw [e2];simp
       have z:=hide (show decide ((user,(q:Int))∈gr)=true from Y8 (by rw [<-e1,<- e2,<- Hpr.out];exact Yf v));clear u e1 e2 Hpr;go_wp2_with fail
       try rw [Exit.noGoto_ret]
       go_ret;exact ⟨by rw [z.out];rfl,Z4⟩
      ·have x2:(L == (q:Int))=false:=by rw [Y3];exact e2
       have z:=hide (show ∀j,(hj:j<gr.length)->j<i+1->gr[j]≠(user,(q:Int)) from fun j hj h9=>by
        exact zze9e)
       clear u e1 e2 Hpr;go_wp2_with fail;exact ⟨⟨i+1,Zr,rfl,Z0,Z4,z.out⟩,Zh⟩
     ·have x1:((bs C).toList == (bs user).toList)=false:=by rw [Y3,ay,ay];exact e1
      have P:((bs C).toList != (bs user).toList)=true:=by rw [YG,ay,ay];exact e1
      have z:=hide (show ∀j,(hj:j<gr.length)->j<i+1->gr[j]≠(user,(q:Int)) from fun j hj h9=>by
       exact zz854)
      clear u e1 Hpr;go_wp2_with fail;exact ⟨⟨i+1,Zr,rfl,Z0,Z4,z.out⟩,Zh⟩
    ·obtain rfl:i=gr.length:=by omega
     have N:¬ (gr.length:Int)<gr.length:=Z0
     have z:=hide (show decide ((user,(q:Int))∈gr)=false from Y7 (fun h9=>by
      obtain ⟨j,hj,e⟩:=YM h9
      exact Hno.out j hj hj e))
     clear u;go_wp2_with fail
     try rw [Exit.noGoto_ret]
     go_ret;exact ⟨by rw [z.out];rfl,A⟩
end
section
variable {w : World}
theorem II (s:ByteArray) (h:aZ w er ps k):Calls prog 47 #[.string s,er] w (fun e w'=>∃j,e=.returned (aK j)/\aZ w' (aK j) (s.data.toList :: ps) k/\Below w.heap.size w w'):=by
 match ps,h with
 | [],h =>
  obtain rfl:er=.iface 43 (.int .i64 k):=h;clear h;go_enter func47,ntmps47;go_wp2;go_ret;exact ⟨w.heap.size,rfl,⟨_,_,rfl,Blk.new _ _ _,rfl⟩,Z4⟩
 | p :: ps,h =>
  obtain ⟨b,v',rfl,o,q⟩:=h;exact mO s b ⟨b,v',rfl,o,q⟩
@[go_sem] theorem VY (k n:Int) (s:ByteArray) (A:Option Addr) (m c:Nat) (w:World):(Instr.field 60 (.agg #[.int .u8 k,.int .i64 n,.string s,.slice A m c]) 2).run prog w=.ok (.string s) w:=by kernel_rfl
@[go_sem] theorem V5 (k n:Int) (s:ByteArray) (A:Option Addr) (m c:Nat) (w:World):(Instr.field 60 (.agg #[.int .u8 k,.int .i64 n,.string s,.slice A m c]) 1).run prog w=.ok (.int .i64 n) w:=by kernel_rfl
theorem uH (hF:ik w A l) (u:l.length<=20) (num:Int) (i:Nat):Calls prog 108 #[.agg #[.int .i64 num,.slice A l.length c],.int .i64 i] w (fun e w'=>∃A2 v c2,e=.returned (.agg #[.int .u8 (atF l i).k,.int .i64 (atF l i).n,.string (bs (atF l i).s),.slice A2 v c2])/\Below w.heap.size w w'):=by
 by_cases hi:i<l.length
 ·obtain ⟨z,F,rfl,q,c0,c1,c2,c3,⟨D,o,p,rfl,r⟩,C⟩:=hF.at_ i l[i] (Y1 hi)
  have j:atF l i=l[i]:=by unfold atF;rw [Y1 hi];rfl
  rw [j]
  exact (Mj (c:=c) num i hi u l[i] ⟨c0,c1,c2,c3⟩).mono fun e w' h=>⟨o,_,p,h.1,h.2⟩
 ·have j:atF l i=⟨0,0,[],[]⟩:=by unfold atF;rw [YJ Z0];rfl
  rw [j]
  exact (J3 num i w (.inr Z0)).mono fun e w' h=>⟨none,0,0,h.1,h.2⟩
theorem Js {j:Nat} (hF:ik w A l) (p:l.length<=20) (q:w.cell? ⟨j,0,none⟩=some (.int .i64 num)) (m1:w.cell? ⟨j,1,none⟩=some (.slice A l.length c)) (i:Nat) :
  Calls prog 188 #[.int .i64 i,.pointer (some ⟨j,0,none⟩)] w (fun e w'=>e=.returned (.string (bs (atF l i).s))/\Below w.heap.size w w'):=by
 have h:=hide (uH (c:=c) hF p num i);clear hF;generalize (atF l i).k=k at h;generalize (atF l i).n=n at h;generalize bs (atF l i).s=s at h ⊢;go_enter func188,ntmps188;go_wp2_with fail;refine h.out.mono ?_;rintro e w1 ⟨A2,r,c2,rfl,o⟩;go_wp2_with fail;go_ret;exact ⟨rfl,o⟩
end
section
variable {w0 W W' : World} {B g lo hi bs_ bg : Nat} {A9 A8 : Option Addr} {c9 c8 : Nat} {gr : List (List UInt8 × Int)} {al : List (List UInt8)} {lim n : Int} {sid : Option Tm} {T T' : List Tm} {S S' : Nat -> Prop} {s : SvS}
theorem sD (h:di w0 B g lo hi bs_ bg A9 c9 gr A8 c8 al lim n sid T S s W) (he:aZ W er ps k) :
  Calls prog 60 #[.pointer (some ⟨bs_,0,none⟩),er] W (fun e w'=>∃b,e=.returned (aK b)/\aZ w' (aK b) (bZ :: ps) k/\di w0 B g lo hi bs_ bg A9 c9 gr A8 c8 al lim n sid T S ⟨3,s.fl⟩ w'/\Grown (SB bs_ bg S) W (SB bs_ bg S) w'):=by
 have c3:=h.sb.cell 3;have D:=h.sb.frozen 3;simp only [Jx,Q1,Q2] at c3;have j:=h.sb.set_ 3 (.int .i64 3);simp at j;have r:W.grownBy (W.setCell ⟨bs_,3,none⟩ (.int .i64 3)) (some bs_):=ah (az W (some bs_)) (.inl rfl) _;have o:=he.own h.sb Z2 r
 obtain ⟨w2,p⟩:∃C,C=W.setCell ⟨bs_,3,none⟩ (.int .i64 3):=⟨_,rfl⟩
 rw [<-p] at r j o;have z:=hide (h.setPh (ph:=3) r j);have v:=hide (II ⟨#[97,117,116,104,115]⟩ o);have A:=hide (UH (S:=S) (b2:=bg) r);clear h he j r o;go_enter func60,ntmps60;go_upto_region 2 with fail;rw [<-p];clear p c3 D;go_wp2_with fail;refine v.out.mono ?_;rintro e w3 ⟨b,rfl,q,hb3⟩;have u:=hide (Y4 q hb3);clear q hb3;go_wp2_with fail;go_ret;exact ⟨b,rfl,u.out.1,z.out.below u.out.2,A.out.trans (Grown.of_below u.out.2)⟩
def Wi (w0:World) (B g lo hi bs_ bg:Nat) (A9:Option Addr) (c9:Nat) (gr:List (List UInt8 × Int)) (A8:Option Addr) (c8:Nat) (al:List (List UInt8)) (lim n:Int) (sid:Option Tm) (T:List Tm) (S:Nat->Prop) (W:World) (o:SvS × jZ) (e:Ending) (w':World):Prop :=
 ∃er,e=.returned (.tuple #[.string (bs o.2.out),er])/\ErV w' o.2.err er/\(o.2.err=none->er=.nilIface)/\di w0 B g lo hi bs_ bg A9 c9 gr A8 c8 al lim n sid T S o.1 w'/\Grown (SB bs_ bg S) W (SB bs_ bg S) w'
theorem Bj {lim:Int} {s:SvS} (h:lim<=((s.fl+1:Nat):Int)):aP lim s=(⟨s.ph,s.fl+1⟩,⟨[],none,some ([kQ],12)⟩):=Y6 h
theorem Co {lim:Int} {s:SvS} (h:¬ lim<=((s.fl+1:Nat):Int)):aP lim s=(⟨s.ph,s.fl+1⟩,⟨nE,none,none⟩):=Y5 h
theorem nO {W:World} {b k r:Nat} {n u:Int} {s s':List UInt8} {L L':List (List UInt8)} {o:Option Addr} {p:Nat} (h:Blk W b 60 #[.int .u8 k,.int .i64 n,.string (bs s),.slice A L.length c,.int .u8 r,.int .i64 u,.string (bs s'),.slice o L'.length p]) (v:Txc W (.slice A L.length c) L) (z:Txc W (.slice o L'.length p) L') (C:k<256) (q:r<256):ik W (some ⟨b,0,none⟩) [⟨k,n,s,L⟩,⟨r,u,s',L'⟩]:=by
 refine ⟨fun i x j=>?_⟩
 match i with
 | 0 =>
  simp only [Q1,Option.some.injEq] at j;subst j;refine ⟨⟨b,0,none⟩,.slice A L.length c,rfl,h.lt,?_⟩;rw [Nat.zero_mul,cu];exact ⟨h.cell 0,h.cell 1,h.cell 2,h.cell 3,v,C⟩
 | 1 =>
  simp only [Q2,Q1,Option.some.injEq] at j;subst j;refine ⟨⟨b,0,none⟩,.slice o L'.length p,rfl,h.lt,?_⟩;rw [show (1:Nat)*4=4 from rfl,cu];exact ⟨h.cell 4,h.cell 5,h.cell 6,h.cell 7,z,q⟩
 | i+2=>simp at j
theorem nD (h:di w0 B g lo hi bs_ bg A9 c9 gr A8 c8 al lim n sid T S s W) (hf:(s.fl:Int)<lim) (hl:s.fl<=1000) :
  Calls prog 191 #[.pointer (some ⟨bs_,0,none⟩)] W (Wi w0 B g lo hi bs_ bg A9 c9 gr A8 c8 al lim n sid T S W (aP lim s)):=by
 have c2:=h.sb.cell 2;simp only [Jx,Q1,Q2] at c2;have I:=hide (LB h.gb hf hl);have O:=hide h;clear h
 by_cases o:lim<=((s.fl+1:Nat):Int)
 ·rw [Bj o]
  rw [Y8 o] at I;have HO:=hide (fun (W:World)=>bT ⟨#[108,105,109,105,116]⟩ 12 Z2 W);clear o;go_enter func191,ntmps191;go_wp2_with fail;refine I.out.mono ?_;rintro e w1 ⟨rfl,j,p⟩;have u:=hide (O.out.setFl j p);have N:=hide (Vu (S:=S) (b1:=bs_) j);clear j p c2;go_wp2_with fail;refine (HO.out _).mono ?_;rintro e w2 ⟨b,rfl,hi2,F⟩;have K:=hide (Y4 hi2 F);clear hi2 F;go_wp2_with fail;go_ret2;exact ⟨aK b,rfl,K.out.1,(fun h9=>YP),u.out.below K.out.2,N.out.trans (Grown.of_below K.out.2)⟩
 ·rw [Co o]
  rw [Y7 o] at I;clear o;go_enter func191,ntmps191;go_wp2_with fail;refine I.out.mono ?_;rintro e w1 ⟨rfl,j,p⟩;have u:=hide (O.out.setFl j p);have N:=hide (Vu (S:=S) (b1:=bs_) j);clear j p c2
  obtain ⟨w3,r⟩:∃W,W=(w1.alloc (.cells #[.string ⟨#[112,117,98,108,105,99,107,101,121]⟩] 9)).alloc (.cells #[.int .u8 110,.int .i64 0,.string ⟨#[]⟩,.slice (some ⟨w1.heap.size,0,none⟩) 1 1,.int .u8 98,.int .i64 0,.string ⟨#[]⟩,.slice none 0 0] 60):=⟨_,rfl⟩
  have hb3:Below w1.heap.size w1 w3:=by rw [r];exact ae
  have P:Blk w3 w1.heap.size 9 #[.string ⟨#[112,117,98,108,105,99,107,101,121]⟩]:=by rw [r];exact (Blk.new w1 _ _).alloc _
  have Q:Blk w3 (w1.heap.size+1) 60 #[.int .u8 110,.int .i64 0,.string ⟨#[]⟩,.slice (some ⟨w1.heap.size,0,none⟩) 1 1,.int .u8 98,.int .i64 0,.string ⟨#[]⟩,.slice none 0 0]:=by rw [r];exact yP w1 _ _ _
  have D:Txc w3 (.slice (some ⟨w1.heap.size,0,none⟩) [fM].length 1) [fM]:=⟨uO (B:=0) (xh P (Yb _) rfl (show 1<=maxLen by unfold maxLen;omega)) rfl,_,_,rfl,Y2 _⟩
  have C:ik w3 (some ⟨w1.heap.size+1,0,none⟩) [⟨110,0,[],[fM]⟩,⟨98,0,[],[]⟩]:=nO (s:=[]) (s':=[]) (L:=[fM]) (L':=[]) Q D (uM w3 0) Z2 Z2
  have Y:=hide (lH 51 (c:=2) C (fun x V=>by
   simp only [Yz,List.not_mem_nil,or_false] at V;rcases V with rfl | rfl
   ·exact ⟨Z3,Z3,fun y X=>by simp only [Ym] at X;subst X;decide⟩
   ·exact ⟨Z3,Z3,Z3⟩) Z3)
  have v:=hide hb3;clear P Q D C hb3;go_upto_region 3 with fail;go_wp2_with fail;rw [<-r];clear r;refine Y.out.mono ?_;rintro e w4 ⟨G,⟨q,U,rfl⟩ | ⟨b,ps,k,R,rfl,_⟩⟩
  ·rw [uX] at U
   cases U
   have A:=hide (v.out.trans (G.mono v.out.size));clear G;generalize J:nE=z;have Z:=hide J;clear J;go_wp2_with fail;go_ret2;have J:=Z.out;subst J;exact ⟨.nilIface,rfl,rfl,fun _=>rfl,u.out.below A.out,N.out.trans (Grown.of_below A.out)⟩
  ·rw [uX] at R
   cases R
end
theorem Wm {w:World} {r:Nat} {A C D F G I:Value} (h:Blk w r t #[v,z,A,C,D,F,G,I]) (v0 v1 v2 v3 j o p q:Value) :
  Blk ((((((((w.setCell ⟨r,0,none⟩ v0).setCell ⟨r,1,none⟩ v1).setCell ⟨r,2,none⟩ v2).setCell ⟨r,3,none⟩ v3).setCell ⟨r,4,none⟩ j).setCell ⟨r,5,none⟩ o).setCell ⟨r,6,none⟩ p).setCell ⟨r,7,none⟩ q) r t #[v0,v1,v2,v3,j,o,p,q]:=by
 have u:=(((((((h.set_ 0 v0).set_ 1 v1).set_ 2 v2).set_ 3 v3).set_ 4 j).set_ 5 o).set_ 6 p).set_ 7 q;simpa using u
theorem TI {w:World} (r:Nat) (v0 v1 v2 v3 h j o p:Value):w.grownBy ((((((((w.setCell ⟨r,0,none⟩ v0).setCell ⟨r,1,none⟩ v1).setCell ⟨r,2,none⟩ v2).setCell ⟨r,3,none⟩ v3).setCell ⟨r,4,none⟩ h).setCell ⟨r,5,none⟩ j).setCell ⟨r,6,none⟩ o).setCell ⟨r,7,none⟩ p) (some r) :=
 ah (ah (ah (ah (ah (ah (ah (ah (az w (some r)) (.inl rfl) v0) (.inl rfl) v1) (.inl rfl) v2) (.inl rfl) v3) (.inl rfl) h) (.inl rfl) j) (.inl rfl) o) (.inl rfl) p
theorem Uj {w:World} {q:Addr} {r:Nat} {v0 v1 v2 v3:Value} (h:w.cell? q=some v) (j:q.block≠r) :
  ((((((((w.setCell ⟨r,0,none⟩ v0).setCell ⟨r,1,none⟩ v1).setCell ⟨r,2,none⟩ v2).setCell ⟨r,3,none⟩ v3).setCell ⟨r,4,none⟩ o).setCell ⟨r,5,none⟩ p).setCell ⟨r,6,none⟩ u).setCell ⟨r,7,none⟩ z).cell? q=some v :=
 (World.cell?_of_block ((TI r v0 v1 v2 v3 o p u z:w.grownBy _ (some r)).block q.block (block_lt_of_cell h) (fun e=>j (Y9 e)))).trans h
section
variable {w0 W W' : World} {B g lo hi bs_ bg : Nat} {A9 A8 : Option Addr} {c9 c8 : Nat} {gr : List (List UInt8 × Int)} {al : List (List UInt8)} {lim n : Int} {sid : Option Tm} {T T' : List Tm} {S S' : Nat -> Prop} {s : SvS}
theorem CG {j:World} (h:Pay w0 B g T S j) {s:ByteArray} (hs:s.size<=100000) (p:T.length<=700000000) (w:World) (o:Below j.heap.size j w):Calls prog 12 #[.pointer (some ⟨g,0,none⟩),.string s] w (Tp w0 B g T S j (ofT s.data.toList) (2*s.size+1)) :=
 (J6 (h.use.below o) s hs Z0).mono fun _ _ hd=>pV.y h o Z0 hd
def gq (l:List Fld) (nk ns:Int):Array Value:=#[.string (bs (atF l 0).s),.string (bs (atF l 1).s),.string (bs (atF l 2).s),.int .i64 (atF l 3).n,.string (bs (atF l 4).s),.int .i64 nk,.string (bs (atF l 5).s),.int .i64 ns]
def TE (w0:World) (B g lo hi bs_ bg:Nat) (A9:Option Addr) (c9:Nat) (gr:List (List UInt8 × Int)) (A8:Option Addr) (c8:Nat) (al:List (List UInt8)) (lim n:Int) (sid:Option Tm) (T:List Tm) (S:Nat->Prop) (s:SvS) (W:World) (l:List Fld) (e:Ending) (w':World):Prop :=
 ∃T' S' nk ns,e=.returned (.agg (gq l nk ns))/\Idn T' (ofT (atF l 5).s) nk/\Idn T' (ofT (atF l 6).s) ns/\T <+: T'/\T'.length<=T.length+2*((atF l 5).s.length+(atF l 6).s.length)+2/\di w0 B g lo hi bs_ bg A9 c9 gr A8 c8 al lim n sid T' S' s w'/\Grown S W S' w'
theorem Ky (h:di w0 B g lo hi bs_ bg A9 c9 gr A8 c8 al lim n sid T S s W) (FK:∀S' W',Grown S W S' W'->ik W' A l) (hl:l.length<=20) (P:∀i,(atF l i).s.length<=40000) (hT:T.length<=500000000) :
  Calls prog 109 #[.pointer (some ⟨bs_,0,none⟩),.agg #[.int .i64 num,.slice A l.length c]] W (TE w0 B g lo hi bs_ bg A9 c9 gr A8 c8 al lim n sid T S s W l):=by
 obtain ⟨C,hW0⟩:∃C,C=(W.alloc (.cells #[.int .i64 num,.slice A l.length c] 55)).alloc (.cells #[.string ⟨#[]⟩,.string ⟨#[]⟩,.string ⟨#[]⟩,.int .i64 0,.string ⟨#[]⟩,.int .i64 0,.string ⟨#[]⟩,.int .i64 0] 197):=⟨_,rfl⟩
 have F:Below W.heap.size W C:=Zg;have L:Blk C W.heap.size 55 #[.int .i64 num,.slice A l.length c]:=by rw [hW0];exact (Blk.new W _ _).alloc _
 have ab:Blk C (W.heap.size+1) 197 #[.string ⟨#[]⟩,.string ⟨#[]⟩,.string ⟨#[]⟩,.int .i64 0,.string ⟨#[]⟩,.int .i64 0,.string ⟨#[]⟩,.int .i64 0]:=by rw [hW0];exact yP W _ _ _
 have D:=h.below F;have O:=h.pay.ar.sL;have hiw:=h.hiw;have J:¬ S bs_:=h.zone.no h.los h.his;have u:¬ S W.heap.size:=fun h9=>by have:=O _ h9;omega
 have am:¬ S (W.heap.size+1):=fun h9=>by have:=O _ h9;omega
 have R:=hide (show ∀S' W',Grown S C S' W'->ik W' A l from fun S' W' hG=>FK S' W' ((Grown.of_below F).trans hG));have K:=D.sb.cell 0;have I:=L.cell 0;have m1:=L.cell 1;simp only [Jx,Q1,Q2] at K I m1;have w:=hide (Y4 K (Y4 I m1));have HS:=hide ab
 have Q:=hide (fun (j:Int) (i:Nat) (hj:j=i) {S':Nat->Prop} {Wb V:World} (o:Grown S C S' Wb) (hb:Below Wb.heap.size Wb V)=>show Calls prog 188 #[.int .i64 j,.pointer (some ⟨W.heap.size,0,none⟩)] V (fun e w'=>e=.returned (.string (bs (atF l i).s))/\Below Wb.heap.size Wb w') from by
  subst hj
  exact (Js (c:=c) ((R.out _ _ o).below hb) hl (aA hb (o.outs.cell w.out.2.1 u)) (aA hb (o.outs.cell w.out.2.2 u)) i).mono fun e w' h9=>⟨h9.1,hb.trans (h9.2.mono hb.size)⟩)
 have an:=hide (fun (S':Nat->Prop) (Wb V:World) (o:Grown S C S' Wb) (hb:Below Wb.heap.size Wb V)=>show Calls prog 108 #[.agg #[.int .i64 num,.slice A l.length c],.int .i64 3] V (fun e w'=>(∃A2 m2 c2,e=.returned (.agg #[.int .u8 (atF l 3).k,.int .i64 (atF l 3).n,.string (bs (atF l 3).s),.slice A2 m2 c2]))/\Below Wb.heap.size Wb w') from
  (uH (c:=c) ((R.out _ _ o).below hb) hl num 3).mono fun e w' h9=>by
   obtain ⟨A2,m2,c2,e1,e2⟩:=h9
   exact ⟨⟨A2,m2,c2,e1⟩,hb.trans (e2.mono hb.size)⟩)
 have HM:=hide h;have ao:=hide D;have ap:=hide F;have aq:(bs (atF l 5).s).size<=100000:=by show (atF l 5).s.length<=_;have:=P 5;omega
 have av:(bs (atF l 6).s).size<=100000:=by show (atF l 6).s.length<=_;have:=P 6;omega
 have r:=D.pay;have o:Grown S C S C:=Grown.refl _ _;have a0:T.length<=500000000:=hT;have d1:(⟨bs_,0,none⟩:Addr).block≠W.heap.size+1:=by have:=HM.out.his;show bs_≠_;omega
 have d2:(⟨W.heap.size,0,none⟩:Addr).block≠W.heap.size+1:=by show W.heap.size≠_;omega
 have d3:(⟨W.heap.size,1,none⟩:Addr).block≠W.heap.size+1:=by show W.heap.size≠_;omega
 clear h D O FK L ab F P;go_enter func109,ntmps109;go_upto_region 1 with fail;rw [<-hW0];clear hW0;go_upto_region 2 with fail
 go_region_held3 (fun V=>V.cell? ⟨bs_,0,none⟩=some (.pointer (some ⟨g,0,none⟩))/\V.cell? ⟨W.heap.size,0,none⟩=some (.int .i64 num)/\V.cell? ⟨W.heap.size,1,none⟩=some (.slice A l.length c))
  (first | (with_reducible exact ⟨Uj K d1,Uj I d2,Uj m1 d3⟩) | exact ⟨K,I,m1⟩)
  (first
   | (go_at_call 188;(first | (with_reducible refine (Q.out 0 0 rfl o Z4).mono ?_) | (with_reducible refine (Q.out 1 1 rfl o Z4).mono ?_) | (with_reducible refine (Q.out 2 2 rfl o Z4).mono ?_) | (with_reducible refine (Q.out 4 4 rfl o Z4).mono ?_) | (with_reducible refine (Q.out 5 5 rfl o Z4).mono ?_) | (with_reducible refine (Q.out 6 6 rfl o Z4).mono ?_));rintro e wq ⟨rfl,z⟩;replace o:=o.trans (Grown.of_below z);replace r:=r.below z;replace K:=o.outs.cell w.out.1 J;replace I:=o.outs.cell w.out.2.1 u;replace m1:=o.outs.cell w.out.2.2 u)
   | (go_at_call 108;refine (an.out _ _ _ o Z4).mono ?_;rintro e wq ⟨⟨A2,m2,c2,rfl⟩,z⟩;replace o:=o.trans (Grown.of_below z);replace r:=r.below z;replace K:=o.outs.cell w.out.1 J;replace I:=o.outs.cell w.out.2.1 u;replace m1:=o.outs.cell w.out.2.2 u)
   | (go_at_call 12;(with_reducible refine (CG r aq Z0 _ Z4).mono ?_);rintro e wq ⟨Ta,nk,Sa,rfl,ac,af,a3,Z,U⟩;replace r:=Z;replace o:=o.trans U;replace K:=o.outs.cell w.out.1 J;replace I:=o.outs.cell w.out.2.1 u;replace m1:=o.outs.cell w.out.2.2 u)
   | (go_at_call 12;(with_reducible refine (CG r av Z0 _ Z4).mono ?_);rintro e wq ⟨Tc,ns,Sc,rfl,ad,N,a4,aa,X⟩;replace r:=aa;replace o:=o.trans X;replace K:=o.outs.cell w.out.1 J;replace I:=o.outs.cell w.out.2.1 u;replace m1:=o.outs.cell w.out.2.2 u;have p:=o.outs.blk HS.out am;have k0:=p.cell 0;have k1:=p.cell 1;have k2:=p.cell 2;have k3:=p.cell 3;have k4:=p.cell 4;have k5:=p.cell 5;have k6:=p.cell 6;have k7:=p.cell 7;have f0:=p.frozen 0;have f1:=p.frozen 1;have f2:=p.frozen 2;have f3:=p.frozen 3;have f4:=p.frozen 4;have f5:=p.frozen 5;have f6:=p.frozen 6;have f7:=p.frozen 7;simp only [Jx,Q1,Q2] at k0 k1 k2 k3 k4 k5 k6 k7;have aE:=p.lt)
   | fail)
 obtain ⟨w8,G⟩:∃W8,W8=((((((((wq.setCell ⟨W.heap.size+1,0,none⟩ (.string (bs (atF l 0).s))).setCell ⟨W.heap.size+1,1,none⟩ (.string (bs (atF l 1).s))).setCell ⟨W.heap.size+1,2,none⟩ (.string (bs (atF l 2).s))).setCell ⟨W.heap.size+1,3,none⟩ (.int .i64 (atF l 3).n)).setCell ⟨W.heap.size+1,4,none⟩ (.string (bs (atF l 4).s))).setCell ⟨W.heap.size+1,5,none⟩ (.int .i64 nk)).setCell ⟨W.heap.size+1,6,none⟩ (.string (bs (atF l 5).s))).setCell ⟨W.heap.size+1,7,none⟩ (.int .i64 ns)):=⟨_,rfl⟩
 have q:Blk w8 (W.heap.size+1) 197 (gq l nk ns):=by rw [G];exact Wm p _ _ _ _ _ _ _ _
 have k8:wq.grownBy w8 (some (W.heap.size+1)):=by rw [G];exact TI _ _ _ _ _ _ _ _ _
 rw [<-G];have Y:=ao.out.grown o r (af.trans N);have aw:¬ Sc (W.heap.size+1):=o.notin2 am HS.out.lt;have aF:=HM.out.pay.use.base
 have Hf:=hide (show TE w0 B g lo hi bs_ bg A9 c9 gr A8 c8 al lim n sid T S s W l (.returned (.agg (gq l nk ns))) w8 from
  ⟨Tc,Sc,nk,ns,rfl,ac.pre N,ad,af.trans N,by have e5:(bs (atF l 5).s).size=(atF l 5).s.length:=rfl;have e6:(bs (atF l 6).s).size=(atF l 6).s.length:=rfl;omega,Y.row k8 aw Z0 Z0,((Grown.of_below ap.out).trans o).keepNew k8 (fun i e=>YS)⟩)
 unfold gq at q;have q0:=q.cell 0;have q1:=q.cell 1;have q2:=q.cell 2;have q3:=q.cell 3;have q4:=q.cell 4;have q5:=q.cell 5;have q6:=q.cell 6;have q7:=q.cell 7;simp only [Jx,Q1,Q2] at q0 q1 q2 q3 q4 q5 q6 q7;clear G q k8 Y p f0 f1 f2 f3 f4 f5 f6 f7 k0 k1 k2 k3 k4 k5 k6 k7 o r aa X Z U K I m1;go_wp2_with fail;exact bodyPost_ret (v:=.agg #[.string (bs (atF l 0).s),.string (bs (atF l 1).s),.string (bs (atF l 2).s),.int .i64 (atF l 3).n,.string (bs (atF l 4).s),.int .i64 nk,.string (bs (atF l 5).s),.int .i64 ns]) (by simp [results,results109,go_sem,q0,q1,q2,q3,q4,q5,q6,q7]) rfl Hf.out
end
def evC (who:Int) (user service alg:ByteArray) (n:Int):Array Value:=#[.int .i64 4,.int .i64 0,.int .i64 0,.int .i64 who,.string user,.string service,.string alg,.int .i64 n,.string ⟨#[]⟩,.string ⟨#[]⟩,.string ⟨#[]⟩,.string ⟨#[]⟩,.string ⟨#[]⟩,.string ⟨#[]⟩,.string ⟨#[]⟩,.string ⟨#[]⟩,.string ⟨#[]⟩,.string ⟨#[]⟩,.string ⟨#[]⟩,.string ⟨#[]⟩,.int .i64 0,.int .u32 0,.int .u32 0,.int .u32 0,.string ⟨#[]⟩,.string ⟨#[]⟩,.int .i64 0,.int .i64 0,.int .i64 0,.int .i64 0,.int .i64 0,.int .i64 0,.int .i64 0,.int .i64 0]
def EvV (w:World) (n:Int) (o:Option (Nat × List UInt8 × List UInt8)) (sv:List UInt8) (v:Value):Prop:=match o with
 | none=>v=.slice none 0 0
 | some (who,user,alg)=>∃b,v=.slice (some ⟨b,0,none⟩) 1 1/\Blk w b 69 (evC who (bs user) (bs sv) (bs alg) n)
def qj (w0:World) (B g lo hi bs_ bg:Nat) (A9:Option Addr) (c9:Nat) (gr:List (List UInt8 × Int)) (A8:Option Addr) (c8:Nat) (al:List (List UInt8)) (lim n:Int) (sid:Option Tm) (T:List Tm) (S:Nat->Prop) (W:World) (m:Nat) (sv:List UInt8) (o:SvS × jZ) (e:Ending) (w':World):Prop :=
 ∃T' S' ev er,e=.returned (.tuple #[.string (bs o.2.out),ev,er])/\EvV w' n o.2.ev sv ev/\ErV w' o.2.err er/\T <+: T'/\T'.length<=T.length+m/\di w0 B g lo hi bs_ bg A9 c9 gr A8 c8 al lim n sid T' S' o.1 w'/\Grown (SB bs_ bg S) W (SB bs_ bg S') w'
theorem rE {w:World} {o:Obj} {p:Addr} (h:w.cell? p=some v):(w.alloc o).cell? p=some v:=(World.cell?_alloc_some _ _ _ (by rw [h];rfl)).trans h
section
variable {w0 W W' : World} {B g lo hi bs_ bg : Nat} {A9 A8 : Option Addr} {c9 c8 : Nat} {gr : List (List UInt8 × Int)} {al : List (List UInt8)} {lim n : Int} {sid : Option Tm} {T T' : List Tm} {S S' : Nat -> Prop} {s : SvS}
theorem RJ (h:di w0 B g lo hi bs_ bg A9 c9 gr A8 c8 al lim n sid T S s W) {ns:Int} (V:(atF l 4).s.length<=40000) (X:(atF l 5).s.length<=40000) :
  Calls prog 190 #[.pointer (some ⟨bs_,0,none⟩),.agg (gq l nk ns),.int .i64 6] W (qj w0 B g lo hi bs_ bg A9 c9 gr A8 c8 al lim n sid T S W 100 (atF l 1).s (gF s l)):=by
 unfold gq
 have K:∀r,encS 60 [⟨115,0,(atF l 4).s,[]⟩,⟨116,0,(atF l 5).s,[]⟩]=r->gF s l=(match r with | .ok b=>(s,⟨b,none,none⟩) | r=>match ic 60 r with | some (ps,k)=>bC s ps (k:Nat) | none=>(s,⟨[],none,none⟩)):=fun r Y=>by
  subst Y;rfl
 have C:=hide K
 obtain ⟨o,hW0⟩:∃o,o=W.alloc (.cells #[.string (bs (atF l 0).s),.string (bs (atF l 1).s),.string (bs (atF l 2).s),.int .i64 (atF l 3).n,.string (bs (atF l 4).s),.int .i64 nk,.string (bs (atF l 5).s),.int .i64 ns] 197):=⟨_,rfl⟩
 have w:Below W.heap.size W o:=Zs;have I:Blk o W.heap.size 197 #[.string (bs (atF l 0).s),.string (bs (atF l 1).s),.string (bs (atF l 2).s),.int .i64 (atF l 3).n,.string (bs (atF l 4).s),.int .i64 nk,.string (bs (atF l 5).s),.int .i64 ns]:=Zp;have Q:=I.cell 4;have R:=I.cell 6;simp only [Jx,Q1,Q2] at Q R
 obtain ⟨v,p⟩:∃v,v=o.alloc (.cells #[.int .u8 115,.int .i64 0,.string (bs (atF l 4).s),.slice none 0 0,.int .u8 116,.int .i64 0,.string (bs (atF l 5).s),.slice none 0 0] 60):=⟨_,rfl⟩
 have A:Below o.heap.size o v:=by rw [p];exact aT _
 have N:Blk v o.heap.size 60 #[.int .u8 115,.int .i64 0,.string (bs (atF l 4).s),.slice none 0 0,.int .u8 116,.int .i64 0,.string (bs (atF l 5).s),.slice none 0 0]:=by rw [p];exact Blk.new o _ _
 have z:ik v (some ⟨o.heap.size,0,none⟩) [⟨115,0,(atF l 4).s,[]⟩,⟨116,0,(atF l 5).s,[]⟩]:=nO (L:=[]) (L':=[]) N (uM v 0) (uM v 0) Z2 Z2
 have G:=hide (lH 60 (c:=2) z (fun x P=>by
  simp only [Yz,List.not_mem_nil,or_false] at P;rcases P with rfl | rfl
  ·exact ⟨Xs,Z3,Z3⟩
  ·exact ⟨by show (atF l 5).s.length<=_;omega,Z3,Z3⟩) Z3)
 have J:=hide h;have D:=hide (w.trans (A.mono w.size));clear h w I A N z K V X;go_enter func190,ntmps190;go_upto_region 1 with fail;rw [<-hW0];clear hW0;go_wp2_with fail;rw [<-p];clear p Q R;refine G.out.mono ?_;rintro e w2 ⟨q,⟨b,O,rfl⟩ | ⟨b,ps,k,u,rfl,hi2⟩⟩
 ·have E:=hide (C.out _ O)
  have j:=hide (D.out.trans (q.mono D.out.size));clear O q G C;go_wp2_with fail;go_ret3;rw [E.out];exact ⟨T,S,.slice none 0 0,.nilIface,rfl,rfl,rfl,Yl _,Z0,J.out.below j.out,(Grown.of_below j.out).sb _ _⟩
 ·have E:=hide (show gF s l=bC s ps (k:Nat) from by
   rw [C.out _ rfl]
   cases F:encS 60 [⟨115,0,(atF l 4).s,[]⟩,⟨116,0,(atF l 5).s,[]⟩] with
   | ok b=>rw [F] at u;cases u
   | none=>rw [F] at u;simp only;rw [u]
   | long=>rw [F] at u;simp only;rw [u]
   | bad e i=>rw [F] at u;simp only;rw [u])
  have j:=hide (D.out.trans (q.mono D.out.size));have U:=hide hi2;clear u q hi2 G C;go_wp2_with fail;go_ret3;rw [E.out];exact ⟨T,S,.slice none 0 0,aK b,rfl,rfl,U.out,Yl _,Z0,J.out.below j.out,(Grown.of_below j.out).sb _ _⟩
noncomputable def Jp (sid:Option Tm) (l:List Fld):ByteArray:=pG (iM (ofT (atF l 5).s)=false) (ofT (atF l 6).s=none\/ofT (atF l 6).s≠lU sid (bs (atF l 0).s) (bs (atF l 1).s) (bs (atF l 4).s) (fC (ofT (atF l 5).s)))
end
structure CfP.W (c:CfP) (w:World):Prop where
 cw:CfW w c.sw c.cm c.us [.slice c.A0 c.n0 c.c0,.slice c.A1 c.n1 c.c1,.slice c.A2 c.n2 c.c2,.slice c.A3 c.n3 c.c3,.slice c.A4 c.n4 c.c4,.slice c.A5 c.n5 c.c5,.slice c.A6 c.n6 c.c6,.slice c.A7 c.n7 c.c7] c.ls c.A8 c.c8 c.al c.A9 c.gr c.A10 c.ky
 u0:IntKind.i64.wrap c.q0=c.q0
 u1:IntKind.i64.wrap c.q1=c.q1
 u2:IntKind.i64.wrap c.q2=c.q2
def CfP.fw (c:CfP):Bool:=jV c.sw c.cm c.us c.ls c.al c.gr c.ky
theorem CfP.W.below {c:CfP} {w w':World} (h:c.W w) (g:Below w.heap.size w w'):c.W w':=⟨CfW.below h.cw g,h.u0,h.u1,h.u2⟩
theorem CfP.W.m {c:CfP} {w:World} (h:c.W w) (g:c.fw=true):c.M w:=CfW.few h.cw g
theorem CfP.fw_len {c:CfP} (g:c.fw=true):c.al.length<=20/\c.gr.length<=20:=by
 unfold CfP.fw jV at g;simp only [YF,Yw] at g;obtain ⟨⟨⟨⟨⟨⟨⟨⟨_,h⟩,j⟩,_⟩,_⟩,_⟩,_⟩,_⟩,_⟩:=g;exact ⟨h,j⟩
theorem Ei {w:World} {g:List Value} (h:Shp.oks w BM g):∃c:CfP,g=c.cells.toList/\c.W w:=by
 obtain ⟨sv,ex,ge,sw,cm,us,own,lim,peer,q0,q1,q2,A0,n0,c0,A1,n1,c1,A2,n2,c2,A3,n3,c3,A4,n4,c4,A5,n5,c5,A6,n6,c6,A7,n7,c7,A8,c8,A9,c9,A10,c10,ls,al,gr,ky,rfl,j,u0,u1,u2⟩:=Lc h;exact ⟨⟨sv,ex,ge,sw,cm,us,A0,A1,A2,A3,A4,A5,A6,A7,A8,A9,A10,n0,n1,n2,n3,n4,n5,n6,n7,c0,c1,c2,c3,c4,c5,c6,c7,c8,c9,c10,al,own,lim,peer,q0,q1,q2,gr,ky,ls⟩,rfl,j,u0,u1,u2⟩
structure CvP (c:CfP) (cv:Array Value):Prop where
 val:c.val=.agg cv
 len:cv.toList.length=23
 one:cv.all (·.oneCell')=true
 p0:cv[0]?=some (.bool c.sv)
 p11:cv[11]?=some (.slice c.A8 c.al.length c.c8)
 p13:cv[13]?=some (.slice c.A9 c.gr.length c.c9)
 p14:cv[14]?=some (.int .i64 c.lim)
theorem CO (c:CfP):∃cv:Array Value,c.cells=cv/\CvP c cv:=by
 refine ⟨_,rfl,rfl,rfl,?_,rfl,rfl,rfl,rfl⟩;unfold CfP.cells;simp [Value.oneCell']
structure StB (w:World) (b:Nat) (cv:Array Value) (sid:ByteArray):Prop where
 blk:Blk w b 73 (cv++#[Value.string sid])
 size:cv.toList.length=23
section
variable {w w' : World} {b : Nat} {cv : Array Value} {sid : ByteArray}
theorem StB.below (h:StB w b cv sid) (g:Below w.heap.size w w'):StB w' b cv sid:=⟨h.blk.below g h.blk.lt,h.size⟩
theorem StB.sz (h:StB w b cv sid):cv.size=23:=by have:=h.size;simpa using this
theorem zzc77 (h_:p_:=by
 have hl:i<cv.size:=by
  rcases Nat.lt_or_ge i cv.size with h2 | h2
  ·exact h2
  ·rw [Array.getElem?_eq_none h2] at hi;cases hi
 rw [h.blk.cell i,Array.getElem?_append_left hl,hi]):p_:=h_
theorem StB.at_ (h:StB w b cv sid) (hi:cv[i]?=some v):w.cell? ⟨b,i,none⟩=some v:=by
 exact zzc77
theorem StB.sid_ (h:StB w b cv sid):w.cell? ⟨b,23,none⟩=some (.string sid):=by
 rw [h.blk.cell 23,YO (by rw [h.sz];exact Y2 _),h.sz];rfl
theorem StB.range (h:StB w b cv sid):w.rangeAt b 0 cv.toList:=fun j v g=>by
 rw [Nat.zero_add];exact h.at_ (by simpa using g)
theorem StB.all (h:StB w b cv sid):w.rangeAt b 0 (cv++#[Value.string sid]).toList:=vX (by rw [YN];exact h.blk)
theorem KY:(prog.info? 73).map (·.size)=some 24:=Z1
theorem gK {g:Array Oper} (hw:Region.wanted j (yielded g a.tmps)=true) (x:Operand) (p:j.op=.load 30 x) (q:a.eval x=.pointer (some ⟨b,0,none⟩)) (o:StB w b cv sid)
  (h:wpList prog g Q rest (a.put j.dst (.agg cv)) w):wpList prog g Q (j :: rest) a w :=
 aX hw (by
  unfold execOp;have key:=run_loadAt_mid (P:=prog) w b 0 30 cv.toList _ o.range underlying30 rfl (by rw [o.size];exact ol);rw [YN] at key;simp only [p,q]
  simp [Sem.run_bind,key]) h
theorem kT {g:Array Oper} (hw:Region.wanted j (yielded g a.tmps)=true) (x:Operand) (p:j.op=.load 73 x) (q:a.eval x=.pointer (some ⟨b,0,none⟩)) (o:StB w b cv sid)
  (h:wpList prog g Q rest (a.put j.dst (.agg (cv++#[Value.string sid]))) w):wpList prog g Q (j :: rest) a w :=
 aX hw (by
  unfold execOp;have key:=run_loadAt_mid (P:=prog) w b 0 73 (cv++#[Value.string sid]).toList _ o.all underlying73 rfl (by rw [show (cv++#[Value.string sid]).toList.length=24 from by rw [Array.toList_append,Ya,o.size];rfl];exact KY);rw [YN] at key;simp only [p,q]
  simp [Sem.run_bind,key]) h
end
section
variable {w : World}
theorem CfP.few (c:CfP) (h:c.W w):Calls prog 35 #[c.val] w (fun e w'=>e=.returned (.bool c.fw)/\Below w.heap.size w w'):=by
 obtain ⟨sv,ex,ge,sw,cm,us,A0,A1,A2,A3,A4,A5,A6,A7,A8,A9,A10,n0,n1,n2,n3,n4,n5,n6,n7,c0,c1,c2,c3,c4,c5,c6,c7,c8,c9,c10,al,own,lim,peer,q0,q1,q2,gr,ky,ls⟩:=c;exact L8 h.cw
def Rf (c:CfP) (sid:ByteArray) (l:List (List UInt8)):Bool:=decide (l.length<=20) && c.fw && decide (sid.size<=300) && l.all fun x=>decide (x.length<=3000)
theorem KN (c:CfP) (h:c.W w) {cv:Array Value} (F:CvP c cv) (sid:ByteArray) (af:sid.size<=maxLen) {d:Nat} {l:List (List UInt8)} (hl:Txs w (.slice A l.length d) l) (ac:l.length<=maxLen) (Q:∀x∈l,x.length<=maxLen) :
  Calls prog 17 #[.agg (cv++#[Value.string sid]),.slice A l.length d] w (fun e w'=>e=.returned (.bool (Rf c sid l))/\Below w.heap.size w w'):=by
 obtain ⟨z,hW0⟩:∃z,z=w.alloc (.cells (cv++#[Value.string sid]) 73):=⟨_,rfl⟩
 have B:Below w.heap.size w z:=Zs
 have V:StB z w.heap.size cv sid:=⟨Zk,F.len⟩
 have U:=hide (c.few (h.below B));rw [F.val] at U;have HT:=hide (hl.below B);have D:=hide B;generalize X:cv++#[Value.string sid]=cx at hW0;unfold Rf;clear B h hl F
 by_cases O:l.length<=20
 ·have N:decide ((20:Int)<l.length)=false:=Y7 Z0
  rw [Y8 O,YH];have HZ:=hide (fun i (h9:i<l.length)=>Q l[i] (Yf h9));obtain ⟨T,d',hv,hA⟩:=HT.out.open_;obtain ⟨rfl,rfl⟩:T=A/\d'=d:=Z8;have R:=V.sid_;have ab:¬ (20:Int)<l.length:=Z0;clear hv HT N Q;go_enter func17,ntmps17;go_upto_region 1 with fail;rw [<-hW0];clear hW0 X;refine wp_region_lit ?_;refine aX (v:=.slice T l.length d') (w':=z) Z5 Za ?_
  try simp only [Act.put,J0,JT,Y0]
  refine aX (v:=.int .i64 l.length) (w':=z) Z5 Za ?_
  try simp only [Act.put,J0,JT,Y0]
  refine aX (v:=.bool false) (w':=z) Z5 Za ?_
  try simp only [Act.put,J0,JT,Y0]
  refine aX (v:=.bool false) (w':=z) Z5 Za ?_
  try simp only [Act.put,J0,JT,Y0]
  refine aX (v:=.pointer (some ⟨w.heap.size,0,none⟩)) (w':=z) Z5 Za ?_
  try simp only [Act.put,J0,JT,Y0]
  refine gK Z5 (.tmp 10) rfl Z5 V ?_
  try simp only [Act.put,J0,JT,Y0]
  refine eQ (f:=35) Z5 Za U.out ?_;rintro e w1 ⟨rfl,C⟩;refine ⟨_,rfl,?_⟩
  try simp only [Act.put,J0,JT,Y0]
  have R:=aA C R;have u:=hide (D.out.trans (C.mono D.out.size))
  have HA:=hide (show ∀i,(h9:i<l.length)->∃I,T=some I/\w1.cell? (I.add i)=some (Value.string (bs l[i])) from fun i h9=>by
   obtain ⟨I,e,hab,hc⟩:=hA i h9
   exact ⟨I,e,(C.cell (p:=I.add i) X8).trans hc⟩)
  clear C V U D hA
  cases hc:c.fw with
  | false =>
   go_wp2_with fail;go_ret;exact ⟨Z3,u.out⟩
  | true =>
   by_cases o:sid.size<=300
   ·have G:¬ (300:Int)<sid.size:=by omega
    have g:=hide (Y8 o);clear o;go_wp2_with fail
    go_loopw [5] (fun vi wr=>wr=w1/\∃i:Nat,vi=.int .i64 i/\i<=l.length/\Hid (∀j,(J:j<l.length)->j<i->l[j].length<=3000)) (fun vi _=>l.length - (intOf vi).toNat)
    case atStart=>exact ⟨rfl,0,rfl,Yb _,hide (fun j _ h9=>Z0)⟩
    case round =>
     obtain ⟨rfl,i,rfl,hi,L⟩:=hrel
     by_cases q:i<l.length
     ·have Z:(i:Int)<l.length:=by omega
      obtain ⟨I,rfl,P⟩:=HA.out i q;have hz:=HZ.out i q;have He:=hide (show l[i]=l[i] from rfl);generalize hy:l[i]=y at P hz He;have Hy:=hide hy;clear hy;have r:(bs y).size=y.length:=rfl;have aa:(bs y).size<=maxLen:=hz;generalize bs y=yb at P r aa;clear hz
      by_cases S:y.length<=3000
      ·have Y:¬ (3000:Int)<yb.size:=by rw [r];omega
       have K:=hide (show ∀j,(J:j<l.length)->j<i+1->l[j].length<=3000 from fun j J h9=>by
        rcases Nat.lt_succ_iff_lt_or_eq.1 h9 with h8 | h8
        ·exact L.out j J h8
        ·subst h8
         rw [Hy.out]
         exact S)
       clear r S;go_wp2_with fail;exact ⟨⟨trivial,i+1,Zr,Z0,K⟩,Zh⟩
      ·have Y:(3000:Int)<yb.size:=by rw [r];omega
       have K:=hide (show (l.all fun x=>decide (x.length<=3000))=false from by
        rw [List.all_eq_false]
        exact ⟨y,by rw [<-Hy.out];exact Yf q,by simpa using S⟩)
       clear r S;go_wp2_with fail;go_ret;exact ⟨by rw [K.out,g.out];rfl,u.out⟩
     ·obtain rfl:i=l.length:=by omega
      have Z:¬ (l.length:Int)<l.length:=Z0
      have K:=hide (show (l.all fun x=>decide (x.length<=3000))=true from by
       rw [List.all_eq_true];intro x hx;obtain ⟨j,J,rfl⟩:=YM hx
       exact Y8 (L.out j J J))
      go_wp2_with fail;go_ret;exact ⟨by rw [K.out,g.out];rfl,u.out⟩
   ·have G:(300:Int)<sid.size:=by omega
    have g:=hide (Y7 o);clear o;go_wp2_with fail;go_ret;exact ⟨by rw [g.out];simp,u.out⟩
 ·have N:decide ((20:Int)<l.length)=true:=Y8 Z0
  rw [Y7 O];go_enter func17,ntmps17;go_wp2_with fail;go_ret;exact ⟨Z3,Z4⟩
end
structure RSv (w:World) (b:Nat) (cv:Array Value) (sid:ByteArray) (s:SvS):Prop where
 size:cv.size=23
 blk:Blk w b 87 (cv++#[Value.string sid,.int .i64 (s.ph:Nat),.int .i64 (s.fl:Nat)])
structure RtV (o:jZ) (z:ByteArray) (is:Bool) (who:Int) (u a:ByteArray) (k:Int) (y:ByteArray):Prop where
 out:z=bs o.out
 k:k=qx o.err
 y:y=bs (uB o.err)
 no:o.ev=none->is=false
 ev:∀h us al,o.ev=some (h,us,al)->is=true/\who=(h:Nat)/\u=bs us/\a=bs al
def RTk (W:World) (b:Nat) (cv:Array Value) (sid:ByteArray) (o:SvS × jZ) (e:Ending) (w':World):Prop :=
 ∃z is who u a k y,e=.returned (.tuple #[.string z,.agg #[.bool is,.int .i64 who,.string u,.string a],.agg #[.int .i64 k,.string y]])/\RtV o.2 z is who u a k y/\RSv w' b cv sid o.1/\W.grownBy w' (some b)
section
variable {W W' : World} {b : Nat} {cv : Array Value} {sid : ByteArray} {s : SvS}
theorem RSv.sid_ (h:RSv W b cv sid s):W.cell? ⟨b,23,none⟩=some (.string sid):=by
 rw [h.blk.cell 23,YO (by rw [h.size];exact Y2 _),h.size];rfl
theorem RSv.ph (h:RSv W b cv sid s):W.cell? ⟨b,24,none⟩=some (.int .i64 (s.ph:Nat)):=by
 rw [h.blk.cell 24,YO XL,h.size];rfl
theorem RSv.fl (h:RSv W b cv sid s):W.cell? ⟨b,25,none⟩=some (.int .i64 (s.fl:Nat)):=by
 rw [h.blk.cell 25,YO XL,h.size];rfl
theorem RSv.at_ (h:RSv W b cv sid s) (hi:cv[i]?=some v):W.cell? ⟨b,i,none⟩=some v:=by
 exact zzc77
theorem RSv.setPh (h:RSv W b cv sid s) (p:Nat):RSv (W.setCell ⟨b,24,none⟩ (.int .i64 (p:Nat))) b cv sid ⟨p,s.fl⟩:=by
 refine ⟨h.size,?_⟩;have g:=h.blk.set_ 24 (.int .i64 (p:Nat));rwa [Array.setIfInBounds_append_right XL,h.size] at g
theorem RSv.setFl (h:RSv W b cv sid s) (p:Nat):RSv (W.setCell ⟨b,25,none⟩ (.int .i64 (p:Nat))) b cv sid ⟨s.ph,p⟩:=by
 refine ⟨h.size,?_⟩;have g:=h.blk.set_ 25 (.int .i64 (p:Nat));rwa [Array.setIfInBounds_append_right XL,h.size] at g
theorem RSv.below (h:RSv W b cv sid s) (g:Below W.heap.size W W'):RSv W' b cv sid s:=⟨h.size,h.blk.below g h.blk.lt⟩
theorem RSv.far (h:RSv W b cv sid s) {p:Addr} (hp:b≠p.block) (v:Value):RSv (W.setCell p v) b cv sid s:=⟨h.size,h.blk.far hp v⟩
end
def dX (w:World) (b r:Nat) (v0 v1 v2 v3 u0 u1:Value):World :=
 (((((w.setCell ⟨b,0,none⟩ v0).setCell ⟨b,1,none⟩ v1).setCell ⟨b,2,none⟩ v2).setCell ⟨b,3,none⟩ v3).setCell ⟨r,0,none⟩ u0).setCell ⟨r,1,none⟩ u1
section
variable {w w' : World} {b r : Nat} {v0 v1 v2 v3 u0 u1 : Value}
theorem JV {j:TypeId} (z:Blk w b t #[o,a1,a2,q]) (A:Blk w r j #[u,v]) (g:b≠r) :
  Blk (dX w b r v0 v1 v2 v3 u0 u1) b t #[v0,v1,v2,v3]/\Blk (dX w b r v0 v1 v2 v3 u0 u1) r j #[u0,u1]:=by
 constructor
 ·have h:=(((z.set_ 0 v0).set_ 1 v1).set_ 2 v2).set_ 3 v3
  exact (h.far (p:=⟨r,0,none⟩) g u0).far (p:=⟨r,1,none⟩) g u1
 ·have h:=(((A.far (p:=⟨b,0,none⟩) (Ne.symm g) v0).far (p:=⟨b,1,none⟩) (Ne.symm g) v1).far (p:=⟨b,2,none⟩) (Ne.symm g) v2).far (p:=⟨b,3,none⟩) (Ne.symm g) v3
  exact (h.set_ 0 u0).set_ 1 u1
theorem dz {z:TypeId} {j:Value} (u:Blk w b t #[j,a1,a2,o]) (v:Blk w r z #[p,q]) (g:b≠r) (v0 v1 v2 v3 u0 u1:Value) :
  (dX w b r v0 v1 v2 v3 u0 u1).cell? ⟨b,0,none⟩=some v0/\(dX w b r v0 v1 v2 v3 u0 u1).cell? ⟨b,1,none⟩=some v1/\(dX w b r v0 v1 v2 v3 u0 u1).cell? ⟨b,2,none⟩=some v2/\(dX w b r v0 v1 v2 v3 u0 u1).cell? ⟨b,3,none⟩=some v3 /\
   (dX w b r v0 v1 v2 v3 u0 u1).cell? ⟨r,0,none⟩=some u0/\(dX w b r v0 v1 v2 v3 u0 u1).cell? ⟨r,1,none⟩=some u1 :=
 have h:=JV (v0:=v0) (v1:=v1) (v2:=v2) (v3:=v3) (u0:=u0) (u1:=u1) u v g
 ⟨h.1.cell 0,h.1.cell 1,h.1.cell 2,h.1.cell 3,h.2.cell 0,h.2.cell 1⟩
theorem bF {g:Nat} {cv:Array Value} {sid:ByteArray} {s:SvS} (h:RSv w g cv sid s) (j:g≠b) (o:g≠r):RSv (dX w b r v0 v1 v2 v3 u0 u1) g cv sid s :=
 (((((h.far (p:=⟨b,0,none⟩) j v0).far (p:=⟨b,1,none⟩) j v1).far (p:=⟨b,2,none⟩) j v2).far (p:=⟨b,3,none⟩) j v3).far (p:=⟨r,0,none⟩) o u0).far (p:=⟨r,1,none⟩) o u1
theorem bP {g:Nat} {W:World} (h:W.grownBy w (some g)) (j:W.heap.size<=b) (o:W.heap.size<=r):W.grownBy (dX w b r v0 v1 v2 v3 u0 u1) (some g) :=
 ah (ah (ah (ah (ah (ah h (.inr j) v0) (.inr j) v1) (.inr j) v2) (.inr j) v3) (.inr o) u0) (.inr o) u1
end
theorem Ke (ps:List (List UInt8)):atL (bZ :: ps)=[97,117,116,104,115,32]++atL ps:=by
 unfold atL;rw [List.map_cons,List.flatten_cons];rfl
section
variable {W : World} {b : Nat} {cv : Array Value} {sid : ByteArray} {s : SvS}
theorem Hw (k:Int) (ps:List (List UInt8)) (hs:(atL ps).length<=1000000) (w:World):Calls prog 105 #[.int .i64 k,.string (bs (atL ps))] w (fun e w'=>e=.returned (.agg #[.int .i64 k,.string (bs (atL (bZ :: ps)))])/\Below w.heap.size w w'):=by
 rw [Ke];have g:=hide (show (⟨#[97,117,116,104,115,32]⟩:ByteArray)++bs (atL ps)=bs ([97,117,116,104,115,32]++atL ps) from o9 (by rw [ByteArray.toList_eq,ByteArray.toList_eq,data_append];rfl));have p:(bs (atL ps)).size<=1000000:=hs;have h:(6:Int)+(bs (atL ps)).size<=9223372036854775807:=Z0;generalize bs ([97,117,116,104,115,32]++atL ps)=y at g;generalize bs (atL ps)=x at g p h ⊢;clear hs;go_enter func105,ntmps105;go_wp2_with fail;rw [g.out];have o:=Blk.new w 45 #[.int .i64 0,.string ⟨#[]⟩];have hF:=dI o (.int .i64 k) (.string y);have q2:=hF.cell 0;have j:=hF.cell 1;simp at q2 j;exact bodyPost_ret (v:=.agg #[.int .i64 k,.string y]) (by simp [results,results105,go_sem,q2,j]) rfl ⟨rfl,Z4⟩
theorem dH (w:World):Calls prog 65 #[] w (fun e w'=>e=.returned (.agg #[.int .i64 0,.string ⟨#[]⟩])/\Below w.heap.size w w'):=by
 go_enter func65,ntmps65;go_wp2_with fail;have h:=Blk.new w 45 #[.int .i64 0,.string ⟨#[]⟩];have hF:=dI h (.int .i64 0) (.string ⟨#[]⟩);have q2:=hF.cell 0;have g:=hF.cell 1;simp at q2 g;exact bodyPost_ret (v:=.agg #[.int .i64 0,.string ⟨#[]⟩]) (by simp [results,results65,go_sem,q2,g]) rfl ⟨rfl,Z4⟩
theorem jP (W:World):∃g,g=(W.alloc (.cells #[.bool false,.int .i64 0,.string ⟨#[]⟩,.string ⟨#[]⟩] 82)).alloc (.cells #[.int .i64 0,.string ⟨#[]⟩] 45)/\Below W.heap.size W g /\
  Blk g W.heap.size 82 #[.bool false,.int .i64 0,.string ⟨#[]⟩,.string ⟨#[]⟩]/\Blk g (W.heap.size+1) 45 #[.int .i64 0,.string ⟨#[]⟩] :=
 ⟨_,rfl,Z4,(Blk.new W _ _).alloc _,bL W _ _ _⟩
theorem Nz (s:SvS) (ps:List (List UInt8)) (k:Int):RtV (aU (bC s ps k)).2 ⟨#[]⟩ false 0 ⟨#[]⟩ ⟨#[]⟩ k (bs (atL (bZ :: ps))) :=
 ⟨rfl,rfl,rfl,fun _=>rfl,fun _ _ _ h=>ZM⟩
theorem fU (h:RSv W b cv sid s) (k:Int) (ps:List (List UInt8)) (hs:(atL ps).length<=1000000):Calls prog 63 #[.pointer (some ⟨b,0,none⟩),.int .i64 k,.string (bs (atL ps))] W (RTk W b cv sid (aU (bC s ps k))):=by
 obtain ⟨U,J,B,D,I⟩:=jP W;have o:=h.below B;have Q:=o.ph;have N:=o.blk.frozen 24;have ac:=h.blk.lt
 obtain ⟨K,g⟩:∃K,K=U.setCell ⟨b,24,none⟩ (.int .i64 (3:Nat)):=⟨_,rfl⟩
 have z:=o.setPh 3;rw [<-g] at z;have u:=D.far (p:=⟨b,24,none⟩) XI (.int .i64 (3:Nat));have A:=I.far (p:=⟨b,24,none⟩) X9 (.int .i64 (3:Nat));rw [<-g] at u A;have F:W.grownBy K (some b):=by rw [g];exact ah (ag B (some b)) (.inl rfl) _
 have L:=hide (Hw k ps hs K);have R:=hide (Nz s ps k);have C:=hide (Y4 F (Y4 u (Y4 A z)));generalize bs (atL ps)=x at L ⊢;generalize bs (atL (bZ :: ps))=y at L R;have P:W.heap.size≠W.heap.size+1:=Z0;clear h B D I o z u A F hs;go_enter func63,ntmps63;go_upto_region 1 with fail;rw [<-J];clear J;go_upto_region 2 with fail;rw [show (3:Int)=((3:Nat):Int) from rfl,<- g];clear g Q N
 go_wp2_with (first
  | (go_at_call 105;refine L.out.mono ?_;rintro e w2 ⟨rfl,q⟩;have j:=C.out.2.1.below q C.out.2.1.lt;have G:=C.out.2.2.1.below q C.out.2.2.1.lt;have y0:=j.cell 0;have y1:=j.cell 1;have y2:=j.cell 2;have y3:=j.cell 3;have z0:=G.cell 0;have z1:=G.cell 1;have V:=j.frozen 0;have X:=j.frozen 1;have Y:=j.frozen 2;have Z:=j.frozen 3;have aa:=G.frozen 0;have ab:=G.frozen 1;simp at y0 y1 y2 y3 z0 z1)
  | fail)
 obtain ⟨q0,q1,q2,S,q4,T⟩:=dz j G P (.bool false) (.int .i64 0) (.string ⟨#[]⟩) (.string ⟨#[]⟩) (.int .i64 k) (.string y);unfold dX at q0 q1 q2 S q4 T;refine bodyPost_ret (v:=.tuple #[.string ⟨#[]⟩,.agg #[.bool false,.int .i64 0,.string ⟨#[]⟩,.string ⟨#[]⟩],.agg #[.int .i64 k,.string y]]) (by simp [results,results63,go_sem,q0,q1,q2,S,q4,T]) rfl ?_;have O:=aj C.out.1 (ag q (some b));exact ⟨_,_,_,_,_,_,_,rfl,R.out,bF (C.out.2.2.2.below q) Z0 Z0,bP O (Y2 _) (YB _)⟩
theorem RTk.base {V:World} {o:SvS × jZ} {e:Ending} {w':World} (h:RTk V b cv sid o e w') (q:Below W.heap.size W V):RTk W b cv sid o e w':=by
 obtain ⟨z,is,g,u,a,k,y,he,v,p,j⟩:=h;exact ⟨z,is,g,u,a,k,y,he,v,p,aj (ag q (some b)) j⟩
theorem JX {lim:Int} {s:SvS} (h:((s.fl+1:Nat):Int)=lim):aU (aP lim s)=aU (bC ⟨s.ph,s.fl+1⟩ [kQ] 12):=by
 unfold aP;rw [Y6 Z0]
theorem Jq {lim:Int} {s:SvS} (h:((s.fl+1:Nat):Int)<lim):aU (aP lim s)=(⟨s.ph,s.fl+1⟩,⟨nE,none,none⟩):=by
 unfold aP;rw [Y5 Z0];rfl
theorem lw (h:RSv W b cv sid s) {lim:Int} (L:cv[14]?=some (.int .i64 lim)) (hf:(s.fl:Int)<lim) (hl:s.fl<=1000):Calls prog 112 #[.pointer (some ⟨b,0,none⟩)] W (RTk W b cv sid (aU (aP lim s))):=by
 obtain ⟨W0,ab,Q,X,aa⟩:=jP W;have G:=h.below Q;have an:=G.fl;have aF:=G.blk.frozen 25;have a0:=h.blk.lt
 obtain ⟨C,q⟩:∃C,C=W0.setCell ⟨b,25,none⟩ (.int .i64 ((s.fl+1:Nat):Int)):=⟨_,rfl⟩
 have j:=G.setFl (s.fl+1);rw [<-q] at j;have O:=X.far (p:=⟨b,25,none⟩) XI (.int .i64 ((s.fl+1:Nat):Int));have P:=aa.far (p:=⟨b,25,none⟩) X9 (.int .i64 ((s.fl+1:Nat):Int));rw [<-q] at O P;have Y:W.grownBy C (some b):=by rw [q];exact ah (ag Q (some b)) (.inl rfl) _
 have am:=j.at_ L;have K:=j.fl;have B:((s.fl:Nat):Int)+1=((s.fl+1:Nat):Int):=Z0;have af:W.heap.size≠W.heap.size+1:=Z0;have D:=hide (Y4 Y (Y4 O (Y4 P j)));have ad:((s.fl+1:Nat):Int)=lim\/((s.fl+1:Nat):Int)<lim:=Z0;have I:(s.fl:Int)<=1000:=Z0;have ac:(0:Int)<=(s.fl:Int):=Z0;have S:=hide (fun (hq:((s.fl+1:Nat):Int)=lim)=>JX (s:=s) hq);have T:=hide (fun (hq:((s.fl+1:Nat):Int)<lim)=>Jq (s:=s) hq);have N:=hide (fun (V:World) (hb:Below C.heap.size C V)=>show Calls prog 63 #[.pointer (some ⟨b,0,none⟩),.int .i64 12,.string ⟨#[108,105,109,105,116,32]⟩] V (RTk C b cv sid (aU (bC ⟨s.ph,s.fl+1⟩ [kQ] 12))) from (fU (j.below hb) 12 [kQ] Z2).mono fun e w' h=>h.base hb);have U:=hide (fun (V:World) (hb:Below C.heap.size C V)=>(dH V).mono fun e w' h=>(⟨h.1,hb.trans (h.2.mono hb.size)⟩:_/\Below C.heap.size C w'));generalize aU (aP lim s)=o at S T ⊢;have Hs:=hide (show ((⟨s.ph,s.fl+1⟩:SvS))=⟨s.ph,s.fl+1⟩ from rfl);clear h Q X aa G j O P Y hl hf L;simp only at K;generalize ((s.fl:Nat):Int)=fl at an B I ac;generalize ((s.fl+1:Nat):Int)=f1 at q K B ad S T;go_enter func112,ntmps112;go_upto_region 1 with fail;rw [<-ab];clear ab;go_upto_region 2 with fail;rw [<-q];clear q an aF B;rcases ad with he | hn
 ·have e1:(f1 == lim)=true:=by rw [he];simp
  have S:=hide (S.out he);clear he T U
  go_region_held3 (fun V=>V.cell? ⟨b,25,none⟩=some (.int .i64 f1)/\V.cell? ⟨b,14,none⟩=some (.int .i64 lim))
   (exact ⟨K,am⟩)
   (fail)
  go_wp2_with fail;refine (N.out _ Z4).mono ?_;rintro e w2 ⟨z,is,R,u,a,k,y,rfl,hv,Z,F⟩;have g:=D.out.2.1.grown F (fun e=>by have:=Y9 e;omega);have A:=D.out.2.2.1.grown F (fun e=>by have:=Y9 e;omega);have y0:=g.cell 0;have y1:=g.cell 1;have y2:=g.cell 2;have y3:=g.cell 3;have z0:=A.cell 0;have z1:=A.cell 1;have ao:=g.frozen 0;have ap:=g.frozen 1;have aq:=g.frozen 2;have av:=g.frozen 3;have aw:=A.frozen 0;have aE:=A.frozen 1;simp at y0 y1 y2 y3 z0 z1;have HV:=hide (Y4 hv (Y4 Z (aj D.out.1 F)));clear hv Z F N;go_wp2_with fail;obtain ⟨q0,q1,q2,q3,q4,q5⟩:=dz g A af (.bool is) (.int .i64 R) (.string u) (.string a) (.int .i64 k) (.string y);unfold dX at q0 q1 q2 q3 q4 q5;refine bodyPost_ret (v:=.tuple #[.string z,.agg #[.bool is,.int .i64 R,.string u,.string a],.agg #[.int .i64 k,.string y]]) (by simp [results,results112,go_sem,q0,q1,q2,q3,q4,q5]) rfl ?_;rw [S.out];exact ⟨z,is,R,u,a,k,y,rfl,HV.out.1,bF HV.out.2.1 Z0 Z0,bP HV.out.2.2 (Y2 _) (YB _)⟩
 ·have e1:(f1 == lim)=false:=by rw [Y3];omega
  have T:=hide (T.out hn);clear hn S N
  go_region_held3 (fun V=>V.cell? ⟨b,25,none⟩=some (.int .i64 f1)/\V.cell? ⟨b,14,none⟩=some (.int .i64 lim))
   (exact ⟨K,am⟩)
   (fail)
  go_wp2_with fail;refine (U.out _ Z4).mono ?_;rintro e w2 ⟨rfl,J⟩;have g:=D.out.2.1.below J D.out.2.1.lt;have A:=D.out.2.2.1.below J D.out.2.2.1.lt;have y0:=g.cell 0;have y1:=g.cell 1;have y2:=g.cell 2;have y3:=g.cell 3;have z0:=A.cell 0;have z1:=A.cell 1;have ao:=g.frozen 0;have ap:=g.frozen 1;have aq:=g.frozen 2;have av:=g.frozen 3;have aw:=A.frozen 0;have aE:=A.frozen 1;simp at y0 y1 y2 y3 z0 z1;go_wp2_with fail;obtain ⟨q0,q1,q2,q3,q4,q5⟩:=dz g A af (.bool false) (.int .i64 0) (.string ⟨#[]⟩) (.string ⟨#[]⟩) (.int .i64 0) (.string ⟨#[]⟩);unfold dX at q0 q1 q2 q3 q4 q5;refine bodyPost_ret (v:=.tuple #[.string ⟨#[51,0,0,0,9,112,117,98,108,105,99,107,101,121,0]⟩,.agg #[.bool false,.int .i64 0,.string ⟨#[]⟩,.string ⟨#[]⟩],.agg #[.int .i64 0,.string ⟨#[]⟩]]) (by simp [results,results112,go_sem,q0,q1,q2,q3,q4,q5]) rfl ?_;rw [T.out];exact ⟨_,_,_,_,_,_,_,rfl,⟨rfl,rfl,rfl,fun _=>rfl,fun _ _ _ h=>ZM⟩,bF (D.out.2.2.2.below J) Z0 Z0,bP (aj D.out.1 (ag J (some b))) (Y2 _) (YB _)⟩
end
section
variable {w0 W W' : World} {B g lo hi bs_ bg : Nat} {A9 A8 : Option Addr} {c9 c8 : Nat} {gr : List (List UInt8 × Int)} {al : List (List UInt8)} {lim n : Int} {sid : Option Tm} {T T' : List Tm} {S S' : Nat -> Prop} {s : SvS}
theorem Q7 (W:World):Calls prog 22 #[.pointer none] W (fun e w'=>e=.returned (.bool false)/\W=w'):=by
 go_enter func22,ntmps22;go_wp2_with fail;go_ret;exact ⟨rfl,rfl⟩
theorem QV (W:World):Calls prog 23 #[.pointer none] W (fun e w'=>e=.returned (.int .i64 0)/\W=w'):=by
 go_enter func23,ntmps23;go_wp2_with fail;go_ret;exact ⟨rfl,rfl⟩
theorem QI (h:di w0 B g lo hi bs_ bg A9 c9 gr A8 c8 al lim n sid T S s W):Calls prog 22 #[.pointer (some ⟨bs_,0,none⟩)] W (fun e w'=>e=.returned (.bool (decide (s.ph=2)))/\W=w'):=by
 have o:=h.sb.cell 3;simp only [Jx,Q1,Q2] at o
 have e:(((s.ph:Nat):Int) == 2)=decide (s.ph=2):=by
  by_cases j:s.ph=2
  ·rw [j];rfl
  ·rw [Y7 j,Y3];omega
 clear h;generalize ((s.ph:Nat):Int)=p at o e;rw [<-e];clear e;go_enter func22,ntmps22;go_wp2_with fail;go_ret;exact ⟨rfl,rfl⟩
theorem Rc (h:di w0 B g lo hi bs_ bg A9 c9 gr A8 c8 al lim n sid T S s W):Calls prog 23 #[.pointer (some ⟨bs_,0,none⟩)] W (fun e w'=>e=.returned (.int .i64 ((s.fl:Nat):Int))/\W=w'):=by
 have x2:=h.sb.cell 2;have j:=h.gb.cell 3;simp only [Jx,Q1,Q2] at x2 j;have o:=hide (EG j);clear h j;go_enter func23,ntmps23;go_wp2_with fail;refine o.out.mono ?_;rintro e w1 ⟨rfl,rfl⟩;go_wp2_with fail;go_ret;exact ⟨rfl,rfl⟩
end
def Nk:List Shp:=BM++[.s]
theorem GK {w:World}:∀(l m:List Shp) (us:List Value),Shp.oks w (l++m) us->∃u1 u2,us=u1++u2/\Shp.oks w l u1/\Shp.oks w m u2
 | [],m,us,h=>⟨[],us,rfl,trivial,h⟩
 | a :: l,m,us,h=>by
  obtain ⟨u,r,rfl,g,j⟩:=aV (l:=l++m) h;obtain ⟨u1,u2,rfl,o,p⟩:=GK l m r j;exact ⟨u :: u1,u2,rfl,⟨g,o⟩,p⟩
theorem Eo {w:World} {us:List Value} (h:Shp.oks w Nk us):∃(c:CfP) (sid:ByteArray),us=(c.cells++#[Value.string sid]).toList/\c.W w/\sid.size<=maxLen:=by
 obtain ⟨u1,u2,rfl,j,g⟩:=GK BM [.s] us h;obtain ⟨c,rfl,o⟩:=Ei j
 match u2,g with
 | [u],g =>
  simp only [Shp.oks,Shp.ok,and_true] at g;obtain ⟨s,rfl,hs⟩:=g;refine ⟨c,s,?_,o,hs⟩;simp
 | [],g=>simp [Shp.oks] at g
 | _ :: _ :: _,g=>simp [Shp.oks] at g
theorem Lf {w:World} (h:Shp.ok w (.sl [.s]) v):∃ls:List (List UInt8),∃A c,v=.slice A ls.length c/\Txs w (.slice A ls.length c) ls/\ls.length<=maxLen/\∀x∈ls,x.length<=maxLen:=by
 obtain ⟨ls,g,j,o⟩:=Ma h;obtain ⟨p,A,c,e,_⟩:=id g;subst e;exact ⟨ls,A,c,rfl,p,j,o⟩
end Go.Proofs.YtnhekaepgpbijaaGreatDoor
namespace Go.Proofs.YtnhekaepgpbijaaGreatDoor
open Go.Proofs.Tryz Go.RowKit
variable {ps:List (List UInt8)} {k:Int}
theorem wY:∀(f:List UInt8) (l:List Fld) (i:Nat) (out:List UInt8) (j:Nat),gG f l i out≠.bad 0 j
 | c :: f,x :: l,i,out,j=>by
  unfold gG
  split
  ·split
   ·split
    ·exact fun h=>by cases h
    ·exact wY f l _ _ j
   ·rename_i g
    exact fun h=>by
     injection h with h1 _;exact g h1
  ·exact fun h=>by cases h
 | [],_,_,_,_=>fun h=>by cases h
 | _ :: _,[],_,_,_=>fun h=>by cases h
theorem Mg (n:Int) (l:List Fld) (j:Nat):encS n l≠.bad 0 j:=by
 unfold encS
 split
 ·exact wY _ _ _ _ j
 ·exact fun h=>ZM
theorem zk {n:Int} {l:List Fld} {k:Nat} (h:ic n (encS n l)=some (ps,k)):k≠0:=by
 cases he:encS n l with
 | ok b=>rw [he] at h;cases h
 | none=>rw [he] at h;cases h;decide
 | long=>rw [he] at h;cases h;decide
 | bad e i =>
  rw [he] at h;cases h
  intro g;subst g;exact Mg _ _ _ he
def EpS (r:SvS × jZ):Prop:=(∀ps k,r.2.err=some (ps,k)->k≠0/\ps.length<=3/\∀x∈ps,x.length<=1000)/\r.1.ph<=3
def EpW (r:SvS × jZ):Prop:=(∀ps k,r.2.err=some (ps,k)->k≠0/\ps.length<=20/\(∀x∈ps,x.length<=1000)/\∃q,ps=bZ :: q)/\r.1.ph<=3
theorem uW {r:SvS × jZ} (h:EpS r):EpW (aU r):=by
 obtain ⟨s1,out,ev,err⟩:=r
 cases err with
 | none=>exact ⟨fun ps k h9=>YP,h.2⟩
 | some e =>
  obtain ⟨j,u⟩:=e;refine ⟨fun ps k h9=>?_,Y2 _⟩;cases h9
  obtain ⟨o,q,p⟩:=h.1 j _ rfl
  exact ⟨o,XG,fun x g=>(by
   rcases Yz.1 g with rfl | g
   ·decide
   ·exact p x g),j,rfl⟩
section
variable {lim : Int} {s : SvS} {gr : List (List UInt8 × Int)} {al : List (List UInt8)} {sid : Option Tm} {l : List Fld}
theorem oV (h:s.ph<=3) (o:k≠0) (g:ps.length<=3) (j:∀x∈ps,x.length<=1000):EpS (bC s ps k) :=
 ⟨fun _ _ h9=>(by cases h9;exact ⟨o,g,j⟩),h⟩
theorem Bl (h:s.ph<=3) {p:List UInt8} (o:k≠0) (j:p.length<=1000):EpS (bC s [p] k) :=
 oV h o Z3 (fun x g=>by simp only [Ym] at g;subst g;exact j)
theorem pg (h:s.ph<=3):EpS (aP lim s):=by
 unfold aP
 split
 ·exact Bl h Z2 Z2
 ·exact ⟨fun ps k h9=>YP,h⟩
theorem Us (h:s.ph<=3):EpS (gU gr al lim sid s l):=by
 unfold gU
 split
 ·exact pg h
 ·split
  ·exact pg h
  ·split
   ·exact Bl h Z2 Z2
   ·split
    ·exact pg h
    ·unfold jO
     split
     ·unfold gF
      split
      ·exact ⟨fun ps k h9=>YP,h⟩
      ·rename_i r j
       split
       ·rename_i ps k g
        exact oV h (by have:=zk g;omega) (rY g).1 (rY g).2
       ·exact ⟨fun ps k h9=>YP,h⟩
     ·split
      ·exact ⟨fun ps k h9=>YP,(by decide:(2:Nat)<=3)⟩
      ·exact pg h
theorem R8 (h:s.ph<=3) (num:Nat):EpS (jS gr al lim sid s num l):=by
 unfold jS
 split
 ·split
  ·exact ⟨fun ps k h9=>YP,(by decide:(1:Nat)<=3)⟩
  ·exact Bl h Z2 Z2
 ·split
  ·exact ⟨fun ps k h9=>YP,h⟩
  ·split
   ·split
    ·exact Bl h Z2 Z2
    ·exact Us h
   ·exact oV h Z2 Z3 (fun x g=>by cases g)
end
end Go.Proofs.YtnhekaepgpbijaaGreatDoor
