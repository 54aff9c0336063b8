/- Several of my texts in one: CfE, CfF, CfK. -/
import Derived.Test.YtnhekaepgpbijaaGreatDoorKAli
import Derived.Test.YtnhekaepgpbijaaGreatDoorKCfDG
import Derived.Test.YtnhekaepgpbijaaGreatDoorKPrfGG
import Derived.Test.YtnhekaepgpbijaaGreatDoorKAsG
set_option linter.unusedVariables false
set_option linter.unusedSimpArgs false
set_option maxHeartbeats 40000000
set_option maxRecDepth 100000
namespace Go.Proofs.YtnhekaepgpbijaaGreatDoor
open Go.Proofs.Tryz Go.RowKit Go.ChangeShapes Go.WideShapes Go.Sort
variable {w':World} {A B:Option Addr} {gs:List (List UInt8 × Int)} {o:Option (List (List UInt8) × Int)} {c d k r:Nat} {lim n:Int} {p_:Prop} {P:Program} {f:FuncId} {args:Array Value} {al ps:List (List UInt8)} {e:Ending} {g:List Int} {ls:List (List (List UInt8))} {p q v v0 v1 v2 v3:Value} {t:TypeId}
def GrC (w:World) (A:Option Addr) (gs:List (List UInt8 × Int)):Prop:=∀k,(hk:k<gs.length)->∃ad,A=some ad/\ad.block<w.heap.size/\w.cell? (ad.add (k*2))=some (.string (bs gs[k].1))/\w.cell? ⟨(ad.add (k*2)).block,(ad.add (k*2)).off+1,none⟩=some (.int .i64 gs[k].2)
def InC (w:World) (A:Option Addr) (ks:List Int):Prop:=∀k,(hk:k<ks.length)->∃ad,A=some ad/\ad.block<w.heap.size/\w.cell? (ad.add k)=some (.int .i64 ks[k])
theorem GrC.below {w:World} (h:GrC w A gs) (j:Below w.heap.size w w'):GrC w' A gs:=fun k r=>by
 obtain ⟨g,e,h1,o,q⟩:=h k r;exact ⟨g,e,Yi h1 j.size,(j.cell (p:=g.add (k*2)) XS).trans o,(j.cell (p:=⟨(g.add (k*2)).block,(g.add (k*2)).off+1,none⟩) (by show (g.add (k*2)).block<_;rw [ax];exact h1)).trans q⟩
theorem InC.below {w:World} {o:List Int} (h:InC w A o) (j:Below w.heap.size w w'):InC w' A o:=fun k r=>by
 obtain ⟨g,e,h1,q⟩:=h k r;exact ⟨g,e,Yi h1 j.size,(j.cell (p:=g.add k) XS).trans q⟩
def grF:List (List UInt8 × Int)->Int
 | []=>0
 | g :: r=>if bW g.1=false then 3 else if aG g.2=false then 5 else grF r
def grW (gs:List (List UInt8 × Int)):Int:=if 16<gs.length then 2 else grF gs
theorem Cw (g:k<gs.length):grF (gs.drop k)=if bW gs[k].1=false then 3 else if aG gs[k].2=false then 5 else grF (gs.drop (k+1)):=by
 rw [List.drop_eq_getElem_cons g];rfl
def sj (ks:List Int):Int:=if 8<ks.length then 2 else if ks.all aG=true then 0 else 5
theorem yR (h:n<0):aG n=false:=by unfold aG;rw [Y7 Z0];rfl
theorem yI (h:15<n):aG n=false:=by unfold aG;rw [Y7 (p:=n<=15) Z0,Bool.and_false]
theorem yZ (h:0<=n) (g:n<=15):aG n=true:=by unfold aG;rw [Y8 h,Y8 g];rfl
section
variable {w : World}
theorem zz94b (h_:p_:=by
 clear hu HF HE HG HY;go_wp2_with (go_at_call 220;refine (HU.out _).mono ?_;rintro e w2 ⟨rfl,rfl⟩);go_ret
 exact ⟨by rw [E.out];rfl,HBB.out⟩):p_:=h_
theorem EN (h:GrC w A gs) (Q:gs.length<=1000000) (I:∀g∈gs,g.1.length<=1000000) :
  Calls prog 247 #[.slice A gs.length c] w (fun e w'=>e=.returned (.int .i64 (grW gs))/\Below w.heap.size w w'):=by
 have HG:=hide h;have HY:=hide I;clear h I
 by_cases o:16<gs.length
 ·have v:(16:Int)<gs.length:=by omega
  have E:=hide (show grW gs=2 from by unfold grW;rw [Y6 o]);clear o;go_enter func247,ntmps247;exact zz1dd
 ·have v:¬ (16:Int)<gs.length:=by omega
  have HE:=hide (show grW gs=grF gs from by unfold grW;rw [Y5 o]);clear o;go_enter func247,ntmps247;go_wp2_with fail
  go_loopw [10] (fun i wr=>(∃k:Nat,k<=gs.length/\i=.int .i64 k/\Hid (grF gs=grF (gs.drop k)))/\Hid (Below w.heap.size w wr)) (fun i _=>gs.length - (intOf i).toNat)
  case atStart=>exact ⟨⟨0,Yb _,rfl,hide rfl⟩,hide (Below.refl _ _)⟩
  case round =>
   obtain ⟨⟨k,P,rfl,H⟩,HB⟩:=hrel
   by_cases q:k<gs.length
   ·have D:(k:Int)<gs.length:=by omega
    obtain ⟨O,rfl,N,B,C⟩:=(HG.out.below HB.out) k q;have hus:=HY.out _ (Yf q);have HF:=hide (H.out.trans (Cw q));generalize gs[k]=g at B C hus HF;obtain ⟨u,j⟩:=g;simp only at B C hus HF;have HU:=hide (fun W=>BK (bs u) (Yg hus Z2) W);rw [aO] at HU
    obtain ⟨w1,r⟩:∃w1,w1=wr.alloc (.cells #[.string (bs u),.int .i64 j] 158):=⟨_,rfl⟩
    have z:Below wr.heap.size wr w1:=by rw [r];exact ae
    have p:Blk w1 wr.heap.size 158 #[.string (bs u),.int .i64 j]:=by rw [r];exact Blk.new wr _ _
    have HBB:=hide (HB.out.trans (z.mono HB.out.size));have J:=p.cell 0;have K:=p.cell 1;simp at J K;have G:=p.lt;clear H hus z p;go_upto_region 6 with fail;rw [<-r];clear r
    cases hu:bW u with
    | false =>
     rw [hu] at HU;have E:=hide (show grW gs=3 from by rw [HE.out,HF.out,Y6 hu]);exact zz94b
    | true =>
     rw [hu] at HU
     by_cases F:j<0
     ·have E:=hide (show grW gs=5 from by rw [HE.out,HF.out,Y5 Xp,Y6 (yR F)])
      exact zz94b
     ·by_cases L:16<=j
      ·have E:=hide (show grW gs=5 from by rw [HE.out,HF.out,Y5 Xp,Y6 (yI Z0)])
       exact zz94b
      ·have q1:decide (j<0)=false:=Y7 F
       have q2:decide (16<=j)=false:=Y7 L;have H2:=hide (show grF gs=grF (gs.drop (k+1)) from YQ);clear hu HF HG HY;go_wp2_with (go_at_call 220;refine (HU.out _).mono ?_;rintro e w2 ⟨rfl,rfl⟩);go_roundw
       case rel=>exact ⟨⟨k+1,q,Zr,H2⟩,HBB⟩
       case measure=>simp [intOf];omega
   ·have D:¬ (k:Int)<gs.length:=by omega
    have E:=hide (show grW gs=0 from by rw [HE.out,H.out,List.drop_of_length_le Z0];rfl);clear H HG HY HE;exact zz884
def gm (o:Option (List (List UInt8) × Int)) (w:World) (e:Ending) (w':World):Prop :=
 Below w.heap.size w w'/\match o with
  | none=>e=.returned .nilIface
  | some (ps,k)=>∃b,e=.returned (aK b)/\aZ w' (aK b) ps k
theorem oH (h:Calls P f args w (gm none w)):Calls P f args w (fun e w'=>e=.returned .nilIface/\Below w.heap.size w w'):=h.mono fun _ _ h=>⟨h.2,h.1⟩
theorem y8 {k:Int} (h:Calls P f args w (gm (some (ps,k)) w)):Calls P f args w (fun e w'=>∃b,e=.returned (aK b)/\aZ w' (aK b) ps k/\Below w.heap.size w w'):=h.mono fun _ _ h=>let ⟨b,h1,h2⟩:=h.2;⟨b,h1,h2,h.1⟩
theorem uY (h:o=none) (g:Below w.heap.size w w') (he:e=.returned .nilIface):gm o w e w':=by subst h;exact ⟨g,he⟩
theorem AZ {k:Int} {b:Nat} (h:o=some (ps,k)) (g:Below w.heap.size w w') (he:e=.returned (aK b)) (hi:aZ w' (aK b) ps k):gm o w e w':=by subst h;exact ⟨g,b,he,hi⟩
def OJ:List UInt8:=[107,101,121,115]
def ib (ks:List Int):Option (List (List UInt8) × Int):=if sj ks=0 then none else some ([OJ],sj ks)
theorem Pv (h:sj g=2):ib g=some ([OJ],2):=by unfold ib;rw [h];rfl
theorem PS (h:sj g=5):ib g=some ([OJ],5):=by unfold ib;rw [h];rfl
theorem NC (h:sj g=0):ib g=none:=by unfold ib;rw [h];rfl
theorem GV (h8:¬ 8<g.length) (j:n∈g) (h:aG n=false):sj g=5:=by unfold sj;rw [Y5 h8,qz j h];rfl
theorem Bv (h8:¬ 8<g.length) (h:∀n∈g,aG n=true):sj g=0:=by unfold sj;rw [Y5 h8,Y6 (List.all_eq_true.2 h)]
theorem zz0c9 (h_:p_:=by
 intro x hx;rw [Yh hlt] at hx;rcases Yy.1 hx with hx | hx
 ·exact H.out x hx
 ·simp only [Ym] at hx
  subst hx
  exact hp):p_:=h_
theorem NI (h:InC w A g) (J:g.length<=1000000) :
  Calls prog 222 #[.slice A g.length c] w (gm (ib g) w):=by
 have q:=hide h;have u:=hide (fun (W:World)=>bT ⟨#[107,101,121,115]⟩ 2 Z2 W);have v:=hide (fun (W:World)=>bT ⟨#[107,101,121,115]⟩ 5 Z2 W);clear h
 by_cases h8:8<g.length
 ·have z:(8:Int)<g.length:=by omega
  have E:=hide (Pv (show sj g=2 from by unfold sj;rw [Y6 h8]));clear h8;rw [E.out];go_enter func222,ntmps222;go_wp2_with (go_at_call 43;refine (u.out _).mono ?_;rintro e w2 ⟨b,rfl,hi,B⟩);go_ret;exact ⟨B,b,rfl,hi⟩
 ·have z:¬ (8:Int)<g.length:=by omega
  have o:=hide (fun n (C:n∈g)=>GV h8 C);have j:=hide (Bv h8);clear h8;go_enter func222,ntmps222;go_wp2_with fail
  go_loop [11] (fun i=>∃k:Nat,k<=g.length/\i=.int .i64 k/\Hid (∀n∈g.take k,aG n=true)) (fun i=>g.length - (intOf i).toNat)
  case atStart=>exact ⟨0,Yb _,rfl,hide Z3⟩
  case round =>
   obtain ⟨k,I,rfl,H⟩:=hrel
   by_cases hlt:k<g.length
   ·have p:(k:Int)<g.length:=by omega
    obtain ⟨G,rfl,D,F⟩:=q.out k hlt;have r:=hide (tL g[k] w)
    cases hp:aG g[k] with
    | false =>
     rw [hp] at r;have E:=hide (PS (o.out _ (Yf hlt) hp));clear hp H q o j;go_wp2_with (first | (go_at_call 216;refine r.out.mono ?_;rintro e w1 ⟨rfl,rfl⟩) | (go_at_call 43;refine (v.out _).mono ?_;rintro e w2 ⟨b,rfl,hi,B⟩));go_ret;exact AZ E.out B rfl hi
    | true =>
     rw [hp] at r
     have H2:=hide (show ∀n∈g.take (k+1),aG n=true from by
      exact zz0c9)
     clear hp H q o j;go_wp2_with (go_at_call 216;refine r.out.mono ?_;rintro e w1 ⟨rfl,rfl⟩);exact zz4fa
   ·have p:¬ (k:Int)<g.length:=by omega
    have E:=hide (NC (j.out (fun n C=>H.out n (by rw [Yp Z0];exact C))));clear H q o j;go_wp2_with fail;go_ret;exact uY E.out (Below.refl _ _) rfl
def aS (gs:List (List UInt8 × Int)) (al:List (List UInt8)) (lim:Int):Option (List UInt8 × Int) :=
 if grW gs≠0 then some ([103,114,97,110,116,115],grW gs) else if dG al≠0 then some ([97,108,103,115],dG al) else if lim<1\/20<lim then some ([108,105,109,105,116],5) else none
def bQ (o:Option (List UInt8 × Int)):Option (List (List UInt8) × Int):=o.map fun x=>([[100,101,110,121],x.1],x.2)
theorem q9 (al:List (List UInt8)) (lim:Int) (h:grW gs≠0):aS gs al lim=some ([103,114,97,110,116,115],grW gs):=by unfold aS;rw [Y6 h]
theorem Ah (lim:Int) (h:grW gs=0) (g:dG al≠0):aS gs al lim=some ([97,108,103,115],dG al):=by unfold aS;rw [Y5 X4,Y6 g]
theorem uI (h:grW gs=0) (g:dG al=0) (j:lim<1\/20<lim):aS gs al lim=some ([108,105,109,105,116],5):=by unfold aS;rw [Y5 X4,Y5 (by rw [g];decide),Y6 j]
theorem AL (h:grW gs=0) (g:dG al=0) (j:¬ (lim<1\/20<lim)):aS gs al lim=none:=by unfold aS;rw [Y5 X4,Y5 (by rw [g];decide),Y5 j]
theorem zz02b (h_:p_:=by
 go_enter func186,ntmps186;go_wp2_with (first | (go_at_call 247;refine HG.out.mono ?_;rintro e w1 ⟨rfl,hb1⟩) | (go_at_call 248;refine (HA.out _ hb1).mono ?_;rintro e w2 ⟨rfl,hb2⟩;have hb4:=hb1.trans (hb2.mono hb1.size)) | (go_at_call 43;refine (HO.out _).mono ?_;rintro e w3 ⟨b,rfl,hi,hb3⟩;have HT2:=hide (HT.out _ ⟨#[100,101,110,121]⟩ b _ _ hi);unfold aK at HT2;try unfold aK) | (go_at_call 47;refine HT2.out.mono ?_;rintro e w5 ⟨b2,rfl,hi2,hb5⟩;have hb6:=hb3.trans (hb5.mono hb3.size)));go_ret
 exact ⟨hb4.trans (hb6.mono hb4.size),_,rfl,hi2⟩):p_:=h_
theorem xc (h:GrC w A gs) (F:gs.length<=1000000) (G:∀g∈gs,g.1.length<=1000000)
  (r:Txs w (.slice B al.length d) al) (u:al.length<=d) (v:al.length<=1000000) (C:∀y∈al,y.length<=1000000) :
  Calls prog 186 #[.slice A gs.length c,.slice B al.length d,.int .i64 lim] w (gm (bQ (aS gs al lim)) w):=by
 have HG:=hide (EN (c:=c) h F G);have HA:=hide (fun (W:World) (hb:Below w.heap.size w W)=>MX (r.below hb) u v C);have HT:=hide (fun (W:World) (s:ByteArray) (b:Nat) (ps:List (List UInt8)) (k:Int) (h:aZ W (aK b) ps k)=>mO s b h);clear h F G r u v C;generalize gs.length=n1 at HG ⊢;generalize al.length=n2 at HA ⊢
 by_cases o:grW gs=0
 ·rw [o] at HG
  by_cases p:dG al=0
  ·rw [p] at HA
   by_cases D:lim<1
   ·have HO:=hide (fun (W:World)=>bT ⟨#[108,105,109,105,116]⟩ 5 Z2 W)
    rw [uI o p (.inl D)];clear o p;exact zz02b
   ·by_cases r:20<lim
    ·have HO:=hide (fun (W:World)=>bT ⟨#[108,105,109,105,116]⟩ 5 Z2 W)
     rw [uI o p (.inr r)];clear o p;exact zz02b
    ·have q1:decide (lim<1)=false:=Y7 D
     have q2:decide (20<lim)=false:=Y7 r;rw [AL o p (by rintro (e | e);exact D e;exact r e)];clear o p;go_enter func186,ntmps186;go_wp2_with (first | (go_at_call 247;refine HG.out.mono ?_;rintro e w1 ⟨rfl,hb1⟩) | (go_at_call 248;refine (HA.out _ hb1).mono ?_;rintro e w2 ⟨rfl,hb2⟩;have hb4:=hb1.trans (hb2.mono hb1.size)));go_ret;exact ⟨hb4,rfl⟩
  ·have j:(dG al == 0)=false:=by rw [Y3];exact p
   have q:(dG al != 0)=true:=by simp [bne,j]
   have HO:=hide (fun (W:World)=>bT ⟨#[97,108,103,115]⟩ (dG al) j W);rw [Ah lim o p];clear o p;generalize dG al=z at HA HO j q ⊢;exact zz02b
 ·have j:(grW gs == 0)=false:=by rw [Y3];exact o
  have q:(grW gs != 0)=true:=by simp [bne,j]
  have HO:=hide (fun (W:World)=>bT ⟨#[103,114,97,110,116,115]⟩ (grW gs) j W);rw [q9 al lim o];clear o;generalize grW gs=z at HG HO j q ⊢;go_enter func186,ntmps186;go_wp2_with (first | (go_at_call 247;refine HG.out.mono ?_;rintro e w1 ⟨rfl,hb4⟩) | (go_at_call 43;refine (HO.out _).mono ?_;rintro e w3 ⟨b,rfl,hi,hb3⟩;have HT2:=hide (HT.out _ ⟨#[100,101,110,121]⟩ b _ _ hi);unfold aK at HT2;try unfold aK) | (go_at_call 47;refine HT2.out.mono ?_;rintro e w5 ⟨b2,rfl,hi2,hb5⟩;have hb6:=hb3.trans (hb5.mono hb3.size)));go_ret;exact ⟨hb4.trans (hb6.mono hb4.size),_,rfl,hi2⟩
end
def prF:Nat->List (List (List UInt8))->Option (Nat × Int)
 | _,[]=>none
 | i,l :: r=>if dN l (i == 0)≠0 then some (i,dN l (i == 0)) else prF (i+1) r
def prW (ls:List (List (List UInt8))):Option (Nat × Int):=prF 0 ls
def prR (o:Option (Nat × Int)):Option (List (List UInt8) × Int):=o.map fun x=>([[112,114,101,102,115],iq x.1],x.2)
theorem MP (g:k<ls.length) (h:dN ls[k] (k == 0)≠0):prF k (ls.drop k)=some (k,dN ls[k] (k == 0)):=by
 rw [List.drop_eq_getElem_cons g];unfold prF;rw [Y6 h]
theorem OM (g:k<ls.length) (h:dN ls[k] (k == 0)=0):prF k (ls.drop k)=prF (k+1) (ls.drop (k+1)):=by
 rw [List.drop_eq_getElem_cons g]
 conv=>lhs;unfold prF
 rw [Y5 X4]
theorem IA (g:ls.length<=k):prF k (ls.drop k)=none:=by
 rw [List.drop_of_length_le g];rfl
def Cy (w:World) (g:Nat) (ls:List (List (List UInt8))):Prop:=ls.length=8/\g<w.heap.size/\∀i,(hi:i<ls.length)->∃A c,w.cell? ⟨g,i,none⟩=some (.slice A ls[i].length c)/\Txs w (.slice A ls[i].length c) ls[i]/\ls[i].length<=c
theorem Cy.below {w:World} {g:Nat} (h:Cy w g ls) (j:Below w.heap.size w w'):Cy w' g ls :=
 ⟨h.1,Yi h.2.1 j.size,fun i hi=>let ⟨A,c,h1,h2,h3⟩:=h.2.2 i hi;⟨A,c,(j.cell (p:=⟨g,i,none⟩) h.2.1).trans h1,h2.below j,h3⟩⟩
def rD (w:World) (vs:List Value) (ls:List (List (List UInt8))):Prop:=vs.length=8/\ls.length=8/\∀(i:Nat) v l,vs[i]?=some v->ls[i]?=some l->Txc w v l/\l.length<=1000000/\∀y∈l,y.length<=1000000
theorem rD.below {w:World} {o:List Value} (h:rD w o ls) (p:Below w.heap.size w w'):rD w' o ls :=
 ⟨h.1,h.2.1,fun i v l g j=>⟨(h.2.2 i v l g j).1.below p,(h.2.2 i v l g j).2⟩⟩
theorem rD.allS {w:World} {j:List Value} (h:rD w j ls):jX 0 w j (ls.map bss):=by
 refine ⟨by rw [Yd,h.1,h.2.1],fun i v s o g=>?_⟩;rw [Yt,Option.map_eq_some_iff] at g;obtain ⟨l,p,rfl⟩:=g;have:=h.2.2 i v l o p;exact ⟨this.1.1,by rw [bss,Yd];omega⟩
theorem rD.small {w:World} {g:List Value} (h:rD w g ls):∀l∈ls,l.length<=1000000/\∀y∈l,y.length<=1000000:=by
 intro l j;obtain ⟨i,hi,rfl⟩:=List.mem_iff_getElem.1 j;have o:i<g.length:=by have:=h.1;have:=h.2.1;omega
 exact (h.2.2 i _ _ (Y1 o) (Y1 hi)).2
theorem PL8.rowc {w:World} {g:Nat} (h:PL8 w g ls 8 w') (L:ls.length=8):Cy w' g ls:=by
 obtain ⟨j,u,I,G⟩:=h.row;obtain ⟨v0,P,mid,q,r,z,N,K,O,p⟩:=G Z2;refine ⟨L,u.lt,fun i hi=>?_⟩;have C:i<j.length:=by have:=I.1;rw [Yd] at this;omega
 have v:bN 0 w' j[i] ls[i]:=by
  by_cases o:i=0
  ·subst o
   have D:j[0]=v0:=by rw [Y1 C] at q;exact Y9 q
   have F:ls[0]=P:=by rw [Y1 hi] at r;exact Y9 r
   rw [D,F];obtain ⟨Q,R,rfl⟩:=ed z;exact (ou z rfl).mono (Yb _)
  ·exact (p i j[i] ls[i] Z0 Z0 (Y1 C) (Y1 hi)).mono (Yb _)
 obtain ⟨A,c,e,J,S⟩:=id v;have B:=v.txc.1;rw [e] at B;refine ⟨A,c,?_,B,J⟩;rw [u.cell i,<- e];simp
section
variable {w : World}
theorem R9 {j o:Value} (h:rD w [v0,v1,v2,v3,j,o,p,q] ls) :
  Calls prog 142 #[.agg #[v0,v1,v2,v3,j,o,p,q]] w fun e w'=>∃g,e=.returned (.slice (some ⟨g,0,none⟩) 8 8)/\Cy w' g ls/\Below w.heap.size w w' :=
 (I5 h.allS (fun l u=>(h.small l u).1)).mono fun _ _ r=>let ⟨g,e,_,hP⟩:=r;⟨g,e,hP.rowc h.2.1,hP.bel⟩
theorem Qw {o r:Value} (h:rD w [v0,v1,v2,v3,o,p,q,r] ls) :
  Calls prog 137 #[.agg #[v0,v1,v2,v3,o,p,q,r]] w fun e w'=>∃g,e=.returned (.slice (some ⟨g,0,none⟩) 8 8)/\Cy w' g ls/\Below w.heap.size w w':=by
 refine (vS w h.allS.sl8).mono ?_;rintro e w' ⟨rfl,u,j⟩;refine ⟨_,rfl,⟨h.2.1,u.lt,fun i hi=>?_⟩,j⟩;have C:i<[v0,v1,v2,v3,o,p,q,r].length:=by have:=h.2.1;show i<8;omega
 have z:=((h.below j).2.2 i _ _ (Y1 C) (Y1 hi)).1;obtain ⟨v,A,c,e,B⟩:=z;refine ⟨A,c,?_,by rw [e] at v;exact v,B⟩;rw [u.cell i,<- e];simp
theorem TA :((k:Int) == 0)=(k == 0):=by
 rw [Bool.eq_iff_iff,beq_iff_eq,beq_iff_eq];omega
theorem zz700 (h_:p_:=by
 have HB3:=hide (Y4 (HB.out.1.trans (hb3.mono HB.out.1.size)) (HB.out.2.below hb3));go_roundw
 case rel=>exact ⟨⟨k+1,hlt,by go_num,H2⟩,HB3⟩
 case measure=>simp [intOf];omega):p_:=h_
theorem Ec {Z v5 v6 v7:Value} (U:gL w) (X:iW w) (h:rD w [v0,v1,v2,v3,Z,v5,v6,v7] ls) :
  Calls prog 214 #[.agg #[v0,v1,v2,v3,Z,v5,v6,v7]] w (gm (prR (prW ls)) w):=by
 obtain ⟨⟨A0,n0,c0,e0⟩,⟨A1,n1,c1,e1⟩,⟨A2,n2,c2,e2⟩,⟨A3,n3,c3,e3⟩,⟨A4,n4,c4,e4⟩,⟨A5,n5,c5,e5⟩,⟨A6,n6,c6,e6⟩,⟨A7,n7,c7,e7⟩⟩:=h.allS.sl8;subst e0 e1 e2 e3 e4 e5 e6 e7
 obtain ⟨P,hW0⟩:∃P,P=w.alloc (.cells #[.slice A0 n0 c0,.slice A1 n1 c1,.slice A2 n2 c2,.slice A3 n3 c3,.slice A4 n4 c4,.slice A5 n5 c5,.slice A6 n6 c6,.slice A7 n7 c7] 24):=⟨_,rfl⟩
 have B:Below w.heap.size w P:=Zg;have j:Blk P w.heap.size 24 #[.slice A0 n0 c0,.slice A1 n1 c1,.slice A2 n2 c2,.slice A3 n3 c3,.slice A4 n4 c4,.slice A5 n5 c5,.slice A6 n6 c6,.slice A7 n7 c7]:=Zk;have h8:=h.2.1;have S:=hide (R9 (h.below B));have HS:=hide h.small;have T:=hide (fun (W:World) (hb:Below w.heap.size w W)=>Y4 (U.below hb) (X.below hb));have z0:=j.cell 0;have z1:=j.cell 1;have z2:=j.cell 2;have z3:=j.cell 3;have z4:=j.cell 4;have z5:=j.cell 5;have z6:=j.cell 6;have z7:=j.cell 7;simp at z0 z1 z2 z3 z4 z5 z6 z7;have u:=hide B;clear h U X B j;go_enter func214,ntmps214;go_upto_region 1 with fail;rw [<-hW0];clear hW0;go_wp2_with (go_at_call 142;refine S.out.mono ?_;rintro e w1 ⟨g,rfl,V,G⟩);have Q:=hide (u.out.trans (G.mono u.out.size));have HR:=hide V;clear S u G V z0 z1 z2 z3 z4 z5 z6 z7
 go_loopw [9] (fun i wr=>(∃k:Nat,k<=8/\i=.int .i64 k/\Hid (prW ls=prF k (ls.drop k)))/\Hid (Below w.heap.size w wr/\Cy wr g ls)) (fun i _=>8 - (intOf i).toNat)
 case atStart=>exact ⟨⟨0,Yb _,rfl,hide rfl⟩,hide ⟨Q.out,HR.out⟩⟩
 case round =>
  obtain ⟨⟨k,hk,rfl,H⟩,HB⟩:=hrel
  by_cases hlt:k<8
  ·have O:(k:Int)<8:=by omega
   have r:k<ls.length:=Z0;obtain ⟨A,c,K,Y,L⟩:=HB.out.2.2.2 k r;have hg:=HB.out.2.2.1;have hs:=HS.out _ (Yf r);have v:=hide (JY (T.out _ HB.out.1).2 k hlt);have o:=hide (El (T.out _ HB.out.1).1 Y L hs.1 hs.2 (k == 0));have N:=TA (k:=k);have q:=hide (fun h=>MP r h);have p:=hide (fun h=>OM r h);clear Y L hs;generalize ls[k]=l at o K q p;generalize l.length=nl at o K;generalize C:bs (iq k)=R at v
   by_cases F:dN l (k == 0)=0
   ·rw [F] at o
    have H2:=hide (H.out.trans (p.out F));have HN:=hide (fun (W:World)=>IQ R W);clear F q p H C;generalize (k == 0)=kx at o N;go_wp2_with (first | (go_at_call 272;refine v.out.mono ?_;rintro e w2 ⟨rfl,rfl⟩) | (go_at_call 273;refine o.out.mono ?_;rintro e w3 ⟨rfl,hb3⟩) | (go_at_call 43;refine (HN.out _).mono ?_;rintro e w4 ⟨rfl,rfl⟩));exact zz700
   ·have D:(dN l (k == 0) == 0)=false:=by rw [Y3];exact F
    have HO:=hide (fun (W:World)=>bT R (dN l (k == 0)) D W);have E:=hide (show prR (prW ls)=some ([[112,114,101,102,115],R.data.toList],dN l (k == 0)) from by rw [H.out,q.out F,<- C];rfl);have HT:=hide (fun (W:World) (s:ByteArray) (b:Nat) (ps:List (List UInt8)) (k:Int) (h:aZ W (aK b) ps k)=>mO s b h);clear F q p H C;generalize (k == 0)=kx at o N HO E D;generalize dN l kx=z at o HO E D;go_wp2_with (first | (go_at_call 272;refine v.out.mono ?_;rintro e w2 ⟨rfl,rfl⟩) | (go_at_call 273;refine o.out.mono ?_;rintro e w3 ⟨rfl,hb3⟩) | (go_at_call 43;refine (HO.out _).mono ?_;rintro e w4 ⟨b,rfl,hi,I⟩;have HT2:=hide (HT.out _ ⟨#[112,114,101,102,115]⟩ b _ _ hi);unfold aK at HT2;try unfold aK) | (go_at_call 47;refine HT2.out.mono ?_;rintro e w5 ⟨b2,rfl,hi2,hb5⟩));go_ret;have J:=I.trans (hb5.mono I.size);have hb35:=hb3.trans (J.mono hb3.size);exact AZ E.out (HB.out.1.trans (hb35.mono HB.out.1.size)) rfl hi2
  ·have O:¬ (k:Int)<8:=by omega
   have E:=hide (show prR (prW ls)=none from by rw [H.out,IA Z0];rfl);clear H;go_wp2_with fail;go_ret;exact uY E.out HB.out.1 rfl
def prK (o:Option (Nat × Int)):Int:=match o with | none=>0 | some (_,k)=>k
def prI (o:Option (Nat × Int)):Int:=match o with | none=>-1 | some (i,_)=>i
theorem uh {R S T U:Value} (h:rD w [v0,v1,v2,v3,R,S,T,U] ls) :
  Calls prog 150 #[.agg #[v0,v1,v2,v3,R,S,T,U]] w (fun e w'=>e=.returned (.tuple #[.int .i64 (prK (prW ls)),.int .i64 (prI (prW ls))])/\Below w.heap.size w w'):=by
 obtain ⟨⟨A0,n0,c0,e0⟩,⟨A1,n1,c1,e1⟩,⟨A2,n2,c2,e2⟩,⟨A3,n3,c3,e3⟩,⟨A4,n4,c4,e4⟩,⟨A5,n5,c5,e5⟩,⟨A6,n6,c6,e6⟩,⟨A7,n7,c7,e7⟩⟩:=h.allS.sl8;subst e0 e1 e2 e3 e4 e5 e6 e7
 obtain ⟨L,hW0⟩:∃L,L=w.alloc (.cells #[.slice A0 n0 c0,.slice A1 n1 c1,.slice A2 n2 c2,.slice A3 n3 c3,.slice A4 n4 c4,.slice A5 n5 c5,.slice A6 n6 c6,.slice A7 n7 c7] 24):=⟨_,rfl⟩
 have v:Below w.heap.size w L:=Zg;have j:Blk L w.heap.size 24 #[.slice A0 n0 c0,.slice A1 n1 c1,.slice A2 n2 c2,.slice A3 n3 c3,.slice A4 n4 c4,.slice A5 n5 c5,.slice A6 n6 c6,.slice A7 n7 c7]:=Zk;have h8:=h.2.1;have O:=hide (Qw (h.below v));have HS:=hide h.small;have V:=j.cell 0;have X:=j.cell 1;have Y:=j.cell 2;have Z:=j.cell 3;have z4:=j.cell 4;have z5:=j.cell 5;have z6:=j.cell 6;have z7:=j.cell 7;simp at V X Y Z z4 z5 z6 z7;have u:=hide v;clear h v j;go_enter func150,ntmps150;go_upto_region 1 with fail;rw [<-hW0];clear hW0;go_wp2_with (go_at_call 137;refine O.out.mono ?_;rintro e w1 ⟨g,rfl,P,D⟩);have N:=hide (u.out.trans (D.mono u.out.size));have HR:=hide P;clear O u D P V X Y Z z4 z5 z6 z7
 go_loopw [5] (fun i wr=>(∃k:Nat,k<=8/\i=.int .i64 k/\Hid (prW ls=prF k (ls.drop k)))/\Hid (Below w.heap.size w wr/\Cy wr g ls)) (fun i _=>8 - (intOf i).toNat)
 case atStart=>exact ⟨⟨0,Yb _,rfl,hide rfl⟩,hide ⟨N.out,HR.out⟩⟩
 case round =>
  obtain ⟨⟨k,hk,rfl,H⟩,HB⟩:=hrel
  by_cases hlt:k<8
  ·have J:(k:Int)<8:=by omega
   have r:k<ls.length:=Z0;obtain ⟨A,c,F,Q,G⟩:=HB.out.2.2.2 k r;have hg:=HB.out.2.2.1;have hs:=HS.out _ (Yf r);have o:=hide (Eg Q G hs.1 hs.2 (k == 0));have I:=TA (k:=k);have q:=hide (fun h=>MP r h);have p:=hide (fun h=>OM r h);clear Q G hs;generalize ls[k]=l at o F q p;generalize l.length=nl at o F
   by_cases C:dN l (k == 0)=0
   ·rw [C] at o
    have H2:=hide (H.out.trans (p.out C));clear C q p H;generalize (k == 0)=kx at o I;go_wp2_with (go_at_call 228;refine o.out.mono ?_;rintro e w3 ⟨rfl,hb3⟩);exact zz700
   ·have B:(dN l (k == 0) == 0)=false:=by rw [Y3];exact C
    have K:(dN l (k == 0) != 0)=true:=by simp [bne,B]
    have E:=hide (show prK (prW ls)=dN l (k == 0)/\prI (prW ls)=k from by rw [H.out,q.out C];exact ⟨rfl,rfl⟩);clear C q p H;generalize (k == 0)=kx at o I E B K;generalize dN l kx=z at o E B K;go_wp2_with (go_at_call 228;refine o.out.mono ?_;rintro e w3 ⟨rfl,hb3⟩);go_ret2;exact ⟨by rw [E.out.1,E.out.2];rfl,HB.out.1.trans (hb3.mono HB.out.1.size)⟩
  ·have J:¬ (k:Int)<8:=by omega
   have E:=hide (show prW ls=none from by rw [H.out,IA Z0]);clear H;go_wp2_with fail;go_ret2;exact ⟨Zi,HB.out.1⟩
def Vj (o:Option (List UInt8 × Int)):Int:=match o with | none=>0 | some (_,k)=>k
def Vk (o:Option (List UInt8 × Int)):List UInt8:=match o with | none=>[] | some (s,_)=>s
theorem zzec4 (h_:p_:=by
 go_wp2_with (go_at_call 230;refine HA.out.mono ?_;rintro e w2 ⟨rfl,hb2⟩);go_ret2
 exact ⟨by rw [E.out];rfl,hb2⟩):p_:=h_
theorem zz05e (h_:p_:=by
 clear hu HF HE HG HY;go_wp2_with (go_at_call 229;refine (HU.out _).mono ?_;rintro e w2 ⟨rfl,rfl⟩);go_ret2
 exact ⟨by rw [E.out];rfl,Below.refl _ _⟩):p_:=h_
theorem JW (h:GrC w A gs) (S:gs.length<=1000000) (O:∀g∈gs,g.1.length<=1000000)
  (p:Txs w (.slice B al.length d) al) (I:al.length<=d) (J:al.length<=1000000) (L:∀y∈al,y.length<=1000000) :
  Calls prog 153 #[.slice A gs.length c,.slice B al.length d,.int .i64 lim] w (fun e w'=>e=.returned (.tuple #[.int .i64 (Vj (aS gs al lim)),.string (bs (Vk (aS gs al lim)))])/\Below w.heap.size w w'):=by
 have HA:=hide (yB p I J L);have HG:=hide h;have HY:=hide O;clear h O p I J L;generalize al.length=n2 at HA ⊢
 by_cases r:16<gs.length
 ·have C:(16:Int)<gs.length:=by omega
  have E:=hide (show aS gs al lim=some ([103,114,97,110,116,115],2) from by have j:grW gs=2:=(by unfold grW;rw [Y6 r]);rw [q9 al lim (by rw [j];decide),j]);clear r;go_enter func153,ntmps153;go_wp2_with fail;go_ret2;exact ⟨Zi,Below.refl _ _⟩
 ·have C:¬ (16:Int)<gs.length:=by omega
  have HE:=hide (show grW gs=grF gs from by unfold grW;rw [Y5 r]);clear r;go_enter func153,ntmps153;go_wp2_with fail
  go_loop [8] (fun i=>∃k:Nat,k<=gs.length/\i=.int .i64 k/\Hid (grF gs=grF (gs.drop k))) (fun i=>gs.length - (intOf i).toNat)
  case atStart=>exact ⟨0,Yb _,rfl,hide rfl⟩
  case round =>
   obtain ⟨k,R,rfl,H⟩:=hrel
   by_cases hlt:k<gs.length
   ·have K:(k:Int)<gs.length:=by omega
    obtain ⟨Q,rfl,P,F,G⟩:=HG.out k hlt;have hus:=HY.out _ (Yf hlt);have HF:=hide (H.out.trans (Cw hlt));generalize gs[k]=g at F G hus HF;obtain ⟨u,o⟩:=g;simp only at F G hus HF;have HU:=hide (fun W=>zh (bs u) (Yg hus Z2) W);rw [aO] at HU;clear H hus
    cases hu:bW u with
    | false =>
     rw [hu] at HU;have E:=hide (show aS gs al lim=some ([103,114,97,110,116,115],3) from by have j:grW gs=3:=(by rw [HE.out,HF.out,Y6 hu]);rw [q9 al lim (by rw [j];decide),j]);exact zz05e
    | true =>
     rw [hu] at HU
     by_cases v:o<0
     ·have q1:decide (o<0)=true:=Y8 v
      have E:=hide (show aS gs al lim=some ([103,114,97,110,116,115],5) from by have j:grW gs=5:=(by rw [HE.out,HF.out,Y5 Xp,Y6 (yR v)]);rw [q9 al lim (by rw [j];decide),j]);exact zz05e
     ·have q1:decide (o<0)=false:=Y7 v
      by_cases p:15<o
      ·have q2:decide (15<o)=true:=Y8 p
       have E:=hide (show aS gs al lim=some ([103,114,97,110,116,115],5) from by have j:grW gs=5:=(by rw [HE.out,HF.out,Y5 Xp,Y6 (yI p)]);rw [q9 al lim (by rw [j];decide),j]);exact zz05e
      ·have q2:decide (15<o)=false:=Y7 p
       have H2:=hide (show grF gs=grF (gs.drop (k+1)) from YQ);clear hu HF HG HY;go_wp2_with (go_at_call 229;refine (HU.out _).mono ?_;rintro e w2 ⟨rfl,rfl⟩);exact zz4fa
   ·have K:¬ (k:Int)<gs.length:=by omega
    have j:grW gs=0:=by rw [HE.out,H.out,List.drop_of_length_le Z0];rfl
    clear H HG HY HE
    by_cases q:dG al=0
    ·rw [q] at HA
     by_cases v:lim<1
     ·have q1:decide (lim<1)=true:=Y8 v
      have E:=hide (uI j q (.inl v));clear j q;exact zzec4
     ·have q1:decide (lim<1)=false:=Y7 v
      by_cases p:20<lim
      ·have q2:decide (20<lim)=true:=Y8 p
       have E:=hide (uI j q (.inr p));clear j q;exact zzec4
      ·have q2:decide (20<lim)=false:=Y7 p
       have E:=hide (AL j q (by rintro (e | e);exact v e;exact p e));clear j q;exact zzec4
    ·have D:(dG al == 0)=false:=by rw [Y3];exact q
     have N:(dG al != 0)=true:=by simp [bne,D]
     have E:=hide (Ah lim j q);clear j q;generalize dG al=z at HA E D N;exact zzec4
end
def pl0:List (List UInt8):=[[99,117,114,118,101,50,53,53,49,57,45,115,104,97,50,53,54],[101,99,100,104,45,115,104,97,50,45,110,105,115,116,112,50,53,54],[100,105,102,102,105,101,45,104,101,108,108,109,97,110,45,103,114,111,117,112,45,101,120,99,104,97,110,103,101,45,115,104,97,50,53,54]]
def pl1:List (List UInt8):=[[115,115,104,45,101,100,50,53,53,49,57],[114,115,97,45,115,104,97,50,45,50,53,54]]
def pl2:List (List UInt8):=[[97,101,115,50,53,54,45,103,99,109],[97,101,115,49,50,56,45,99,116,114]]
def pl3:List (List UInt8):=[[97,101,115,50,53,54,45,103,99,109],[97,101,115,49,50,56,45,99,116,114]]
def pl4:List (List UInt8):=[[104,109,97,99,45,115,104,97,50,45,50,53,54],[104,109,97,99,45,115,104,97,50,45,53,49,50]]
def pl5:List (List UInt8):=[[104,109,97,99,45,115,104,97,50,45,50,53,54],[104,109,97,99,45,115,104,97,50,45,53,49,50]]
def pl6:List (List UInt8):=[[110,111,110,101]]
def pl7:List (List UInt8):=[[110,111,110,101]]
def iG:List (List (List UInt8)):=[pl0,pl1,pl2,pl3,pl4,pl5,pl6,pl7]
theorem lZ {w:World} (l:List (List UInt8)):bN w.heap.size (w.alloc (.cells ((l.map bs).map Value.string).toArray t)) (.slice (some ⟨w.heap.size,0,none⟩) l.length l.length) l:=by
 refine Al ?_ (Y2 _);have h:=bR w t (l.map bs) _ rfl;rwa [Yd] at h
theorem FY {Q:Exit->Act->World->Prop} {g:Array Oper} {o:Oper} {a:Act} {w:World} {K:Act->World->Prop} {F:Prop} (hgd:o.guard=none)
  (j:(execOp a.eval o).run P w=.ok .skip w') (h:K (a.put o.dst undef) w'):if Region.wanted o (yielded g a.tmps)=true then Oper.wp P o a w K Q else F:=by
 rw [Y6 ZR];unfold Oper.wp;rw [j];exact h
section
variable {w : World}
theorem H6 (w:World):Calls prog 146 #[] w (fun e w'=>∃v,e=.returned v/\Below w.heap.size w w'/\bN w.heap.size w' v pl2):=by
 have g:=lZ (w:=w) (t:=9) pl2;have h:=eY (w:=w) (.cells (((pl2).map bs).map Value.string).toArray 9);go_enter func146,ntmps146;go_wp2_with fail;go_ret;exact ⟨_,rfl,h,g⟩
theorem GY (w:World):Calls prog 147 #[] w (fun e w'=>∃v,e=.returned v/\Below w.heap.size w w'/\bN w.heap.size w' v pl4):=by
 have g:=lZ (w:=w) (t:=9) pl4;have h:=eY (w:=w) (.cells (((pl4).map bs).map Value.string).toArray 9);go_enter func147,ntmps147;go_wp2_with fail;go_ret;exact ⟨_,rfl,h,g⟩
theorem GJ (w:World):Calls prog 148 #[] w (fun e w'=>∃v,e=.returned v/\Below w.heap.size w w'/\bN w.heap.size w' v pl6):=by
 have g:=lZ (w:=w) (t:=9) pl6;have h:=eY (w:=w) (.cells (((pl6).map bs).map Value.string).toArray 9);go_enter func148,ntmps148;go_wp2_with fail;go_ret;exact ⟨_,rfl,h,g⟩
def vY (w:World) (g:Nat) (v0 v1 v2 v3 v4 v5 v6 v7:Value):World:=((((((((w.setCell ⟨g,0,none⟩ v0).setCell ⟨g,1,none⟩ v1).setCell ⟨g,2,none⟩ v2).setCell ⟨g,3,none⟩ v3).setCell ⟨g,4,none⟩ v4).setCell ⟨g,5,none⟩ v5).setCell ⟨g,6,none⟩ v6).setCell ⟨g,7,none⟩ v7)
theorem Jk {w:World} {u z A B C D F:Value} (h:Blk w r t #[u,v,z,A,B,C,D,F]) (v0 v1 v2 v3 g j o p:Value):Blk (vY w r v0 v1 v2 v3 g j o p) r t #[v0,v1,v2,v3,g,j,o,p]:=by
 have q:=((((((((h.set_ 0 v0).set_ 1 v1).set_ 2 v2).set_ 3 v3).set_ 4 g).set_ 5 j).set_ 6 o).set_ 7 p)
 simpa [vY] using q
theorem JS {B:Nat} {w0 w:World} (h:Below B w0 w) (g:B<=r) (v0 v1 v2 v3 j o q u:Value):Below B w0 (vY w r v0 v1 v2 v3 j o q u):=((((((((h.setCell (p:=⟨r,0,none⟩) g v0).setCell (p:=⟨r,1,none⟩) g v1).setCell (p:=⟨r,2,none⟩) g v2).setCell (p:=⟨r,3,none⟩) g v3).setCell (p:=⟨r,4,none⟩) g j).setCell (p:=⟨r,5,none⟩) g o).setCell (p:=⟨r,6,none⟩) g q).setCell (p:=⟨r,7,none⟩) g u)
theorem JE {lo:Nat} {w:World} {l:List (List UInt8)} (h:bN lo w v l) (g:r<lo) (v0 v1 v2 v3 j o q u:Value):bN lo (vY w r v0 v1 v2 v3 j o q u) v l:=((((((((h.set_ (p:=⟨r,0,none⟩) g v0).set_ (p:=⟨r,1,none⟩) g v1).set_ (p:=⟨r,2,none⟩) g v2).set_ (p:=⟨r,3,none⟩) g v3).set_ (p:=⟨r,4,none⟩) g j).set_ (p:=⟨r,5,none⟩) g o).set_ (p:=⟨r,6,none⟩) g q).set_ (p:=⟨r,7,none⟩) g u)
theorem UG {x y:Operand} {g:Nat} {q B1 r u v z:Option Addr} {P m1 Q R S T U V C D F G I J K L:Nat} (o:Oper) (N:o.op=.store 24 x y) (j:Operand->Value) (X:j x=.pointer (some ⟨g,0,none⟩)) (O:j y=.agg #[.slice q P C,.slice B1 m1 D,.slice r Q F,.slice u R G,.slice v S I,.slice z T J,.slice A U K,.slice B V L]) (w:World) (h:Blk w g 24 #[.slice none 0 0,.slice none 0 0,.slice none 0 0,.slice none 0 0,.slice none 0 0,.slice none 0 0,.slice none 0 0,.slice none 0 0]) :
  (execOp j o).run prog w=.ok .skip (vY w g (.slice q P C) (.slice B1 m1 D) (.slice r Q F) (.slice u R G) (.slice v S I) (.slice z T J) (.slice A U K) (.slice B V L)):=by
 obtain ⟨d,op,t,p,Y,gd⟩:=o;simp only at N;subst N;have c0:=h.cell 0;have Z:=h.frozen 0;have c1:=h.cell 1;have f1:=h.frozen 1;have c2:=h.cell 2;have f2:=h.frozen 2;have c3:=h.cell 3;have f3:=h.frozen 3;have c4:=h.cell 4;have f4:=h.frozen 4;have c5:=h.cell 5;have f5:=h.frozen 5;have c6:=h.cell 6;have f6:=h.frozen 6;have c7:=h.cell 7;have f7:=h.frozen 7;simp at c0 c1 c2 c3 c4 c5 c6 c7;clear h;unfold vY;go_simp
theorem Gq (hM:gL w):Calls prog 84 #[] w (fun e w'=>∃D m0 O B1 m1 Q F m2 R G m3 T I m4 U J m5 V L m6 X N m7 Y,e=.returned (.agg #[.slice D m0 O,.slice B1 m1 Q,.slice F m2 R,.slice G m3 T,.slice I m4 U,.slice J m5 V,.slice L m6 X,.slice N m7 Y])/\(∀(i:Nat) v l,([.slice D m0 O,.slice B1 m1 Q,.slice F m2 R,.slice G m3 T,.slice I m4 U,.slice J m5 V,.slice L m6 X,.slice N m7 Y]:List Value)[i]?=some v->iG[i]?=some l->bN w.heap.size w' v l)/\Below w.heap.size w w'):=by
 obtain ⟨z,hW0⟩:∃z,z=w.alloc (.cells #[.slice none 0 0,.slice none 0 0,.slice none 0 0,.slice none 0 0,.slice none 0 0,.slice none 0 0,.slice none 0 0,.slice none 0 0] 24):=⟨_,rfl⟩
 have af:Below w.heap.size w z:=Zg;have an:Blk z w.heap.size 24 #[.slice none 0 0,.slice none 0 0,.slice none 0 0,.slice none 0 0,.slice none 0 0,.slice none 0 0,.slice none 0 0,.slice none 0 0]:=Zk;have HX:=hide (Y4 af (Y4 an (hM.below af)));clear af an hM;go_enter func84,ntmps84;go_upto_region 4 with fail;rw [<-hW0];clear hW0;refine fJ (fun W=>Below z.heap.size z W) (fun i=>[1,3,5,6,7,9,11,13,15,17,19,20].contains i) Z1 ?_
 obtain ⟨Wd,hWd⟩:∃Wd,Wd=z.drew:=⟨_,rfl⟩
 have ab:Below z.heap.size z Wd:=Xl;rw [<-hWd];clear hWd;refine aD (i:=0) (oi:=?_) (v:=.pointer (some ⟨0,1,none⟩)) ?_ ?_ ?_ ?_ ?_ ?_ ?_ ?_;rotate_left 1
 ·(first | (simp only [Jx,Q2,Q1];exact rfl) | exact rfl)
 ·kernel_rfl
 ·kernel_rfl
 ·kernel_rfl
 ·rfl
 ·exact fun _ _ _ h=>h
 ·exact Or.inl ⟨Z5,fun w _=>Zn⟩
 try simp only [Act.put,J0,JT,Y0]
 refine aD (i:=2) (oi:=?_) (v:=.pointer (some ⟨0,2,none⟩)) ?_ ?_ ?_ ?_ ?_ ?_ ?_ ?_;rotate_left 1
 ·(first | (simp only [Jx,Q2,Q1];exact rfl) | exact rfl)
 ·kernel_rfl
 ·kernel_rfl
 ·kernel_rfl
 ·rfl
 ·exact fun _ _ _ h=>h
 ·exact Or.inl ⟨Z5,fun w _=>Zn⟩
 try simp only [Act.put,J0,JT,Y0]
 refine aD (i:=4) (oi:=?_) (v:=.pointer (some ⟨0,3,none⟩)) ?_ ?_ ?_ ?_ ?_ ?_ ?_ ?_;rotate_left 1
 ·(first | (simp only [Jx,Q2,Q1];exact rfl) | exact rfl)
 ·kernel_rfl
 ·kernel_rfl
 ·kernel_rfl
 ·rfl
 ·exact fun _ _ _ h=>h
 ·exact Or.inl ⟨Z5,fun w _=>Zn⟩
 try simp only [Act.put,J0,JT,Y0]
 refine aD (i:=8) (oi:=?_) (v:=.func (.func 146) #[] #[]) ?_ ?_ ?_ ?_ ?_ ?_ ?_ ?_;rotate_left 1
 ·(first | (simp only [Jx,Q2,Q1];exact rfl) | exact rfl)
 ·kernel_rfl
 ·kernel_rfl
 ·kernel_rfl
 ·rfl
 ·exact fun _ _ _ h=>h
 ·exact Or.inl ⟨Z5,fun w _=>Zn⟩
 try simp only [Act.put,J0,JT,Y0]
 refine aD (i:=10) (oi:=?_) (v:=.func (.func 146) #[] #[]) ?_ ?_ ?_ ?_ ?_ ?_ ?_ ?_;rotate_left 1
 ·(first | (simp only [Jx,Q2,Q1];exact rfl) | exact rfl)
 ·kernel_rfl
 ·kernel_rfl
 ·kernel_rfl
 ·rfl
 ·exact fun _ _ _ h=>h
 ·exact Or.inl ⟨Z5,fun w _=>Zn⟩
 try simp only [Act.put,J0,JT,Y0]
 refine aD (i:=12) (oi:=?_) (v:=.func (.func 147) #[] #[]) ?_ ?_ ?_ ?_ ?_ ?_ ?_ ?_;rotate_left 1
 ·(first | (simp only [Jx,Q2,Q1];exact rfl) | exact rfl)
 ·kernel_rfl
 ·kernel_rfl
 ·kernel_rfl
 ·rfl
 ·exact fun _ _ _ h=>h
 ·exact Or.inl ⟨Z5,fun w _=>Zn⟩
 try simp only [Act.put,J0,JT,Y0]
 refine aD (i:=14) (oi:=?_) (v:=.func (.func 147) #[] #[]) ?_ ?_ ?_ ?_ ?_ ?_ ?_ ?_;rotate_left 1
 ·(first | (simp only [Jx,Q2,Q1];exact rfl) | exact rfl)
 ·kernel_rfl
 ·kernel_rfl
 ·kernel_rfl
 ·rfl
 ·exact fun _ _ _ h=>h
 ·exact Or.inl ⟨Z5,fun w _=>Zn⟩
 try simp only [Act.put,J0,JT,Y0]
 refine aD (i:=16) (oi:=?_) (v:=.func (.func 148) #[] #[]) ?_ ?_ ?_ ?_ ?_ ?_ ?_ ?_;rotate_left 1
 ·(first | (simp only [Jx,Q2,Q1];exact rfl) | exact rfl)
 ·kernel_rfl
 ·kernel_rfl
 ·kernel_rfl
 ·rfl
 ·exact fun _ _ _ h=>h
 ·exact Or.inl ⟨Z5,fun w _=>Zn⟩
 try simp only [Act.put,J0,JT,Y0]
 refine aD (i:=18) (oi:=?_) (v:=.func (.func 148) #[] #[]) ?_ ?_ ?_ ?_ ?_ ?_ ?_ ?_;rotate_left 1
 ·(first | (simp only [Jx,Q2,Q1];exact rfl) | exact rfl)
 ·kernel_rfl
 ·kernel_rfl
 ·kernel_rfl
 ·rfl
 ·exact fun _ _ _ h=>h
 ·exact Or.inl ⟨Z5,fun w _=>Zn⟩
 try simp only [Act.put,J0,JT,Y0]
 refine ak (i:=1) (oi:=?_) (v:=.string ⟨#[99,117,114,118,101,50,53,53,49,57,45,115,104,97,50,53,54]⟩) ?_ ?_ ?_ ?_ ?_ ?_ ?_ ab ?_;rotate_left 1
 ·(first | (simp only [Jx,Q2,Q1];exact rfl) | exact rfl)
 ·kernel_rfl
 ·kernel_rfl
 ·kernel_rfl
 ·kernel_rfl
 ·exact fun _ _ _ h=>h
 ·refine Or.inl ⟨Z5,fun w A=>?_⟩
  have q:=(HX.out.2.2.below A).c1;clear A;go_simp
 try simp only [Act.put,J0,JT,Y0]
 refine ak (i:=3) (oi:=?_) (v:=.string ⟨#[101,99,100,104,45,115,104,97,50,45,110,105,115,116,112,50,53,54]⟩) ?_ ?_ ?_ ?_ ?_ ?_ ?_ ab ?_;rotate_left 1
 ·(first | (simp only [Jx,Q2,Q1];exact rfl) | exact rfl)
 ·kernel_rfl
 ·kernel_rfl
 ·kernel_rfl
 ·kernel_rfl
 ·exact fun _ _ _ h=>h
 ·refine Or.inl ⟨Z5,fun w A=>?_⟩
  have q:=(HX.out.2.2.below A).c2;clear A;go_simp
 try simp only [Act.put,J0,JT,Y0]
 refine ak (i:=5) (oi:=?_) (v:=.string ⟨#[100,105,102,102,105,101,45,104,101,108,108,109,97,110,45,103,114,111,117,112,45,101,120,99,104,97,110,103,101,45,115,104,97,50,53,54]⟩) ?_ ?_ ?_ ?_ ?_ ?_ ?_ ab ?_;rotate_left 1
 ·(first | (simp only [Jx,Q2,Q1];exact rfl) | exact rfl)
 ·kernel_rfl
 ·kernel_rfl
 ·kernel_rfl
 ·kernel_rfl
 ·exact fun _ _ _ h=>h
 ·refine Or.inl ⟨Z5,fun w A=>?_⟩
  have q:=(HX.out.2.2.below A).c3;clear A;go_simp
 try simp only [Act.put,J0,JT,Y0]
 refine yc (P:=prog) (S:=fun W=>Below z.heap.size z W) 8 (fun p=>([6,7,9,11,13,15,17,19]:List Nat).getD p 0) (fun gs=>⟨#[.pointer (some ⟨w.heap.size,0,none⟩),.func (.func 146) #[] #[],.func (.func 147) #[] #[],.func (.func 148) #[] #[],.pointer (some ⟨0,1,none⟩),.string ⟨#[99,117,114,118,101,50,53,53,49,57,45,115,104,97,50,53,54]⟩,.pointer (some ⟨0,2,none⟩),.string ⟨#[101,99,100,104,45,115,104,97,50,45,110,105,115,116,112,50,53,54]⟩,.pointer (some ⟨0,3,none⟩),.string ⟨#[100,105,102,102,105,101,45,104,101,108,108,109,97,110,45,103,114,111,117,112,45,101,120,99,104,97,110,103,101,45,115,104,97,50,53,54]⟩,(gs.getD 0 undef),(gs.getD 1 undef),.func (.func 146) #[] #[],(gs.getD 2 undef),.func (.func 146) #[] #[],(gs.getD 3 undef),.func (.func 147) #[] #[],(gs.getD 4 undef),.func (.func 147) #[] #[],(gs.getD 5 undef),.func (.func 148) #[] #[],(gs.getD 6 undef),.func (.func 148) #[] #[],(gs.getD 7 undef),undef],[]⟩) (fun ds=>#[true,true,true,true,true,true,ds.getD 0 true,ds.getD 1 true,true,ds.getD 2 true,true,ds.getD 3 true,true,ds.getD 4 true,true,ds.getD 5 true,true,ds.getD 6 true,true,ds.getD 7 true,false,false]) (fun p v W=>bN z.heap.size W v (iG.getD p [])) 2 ?_ ?_ ?_ ?_ (JP Z1) ?_ 8 [false,false,false,false,false,false,false,false] [undef,undef,undef,undef,undef,undef,undef,undef] Wd rfl rfl rfl ab ?_
 ·exact fun p v w2 w3 h hb=>bN.belowW h hb
 ·exact fun w2 w3 h hb=>h.trans (hb.mono h.size)
 ·intro p hp
  match p,hp with
   | 0,_=>exact ⟨_,rfl,fun gs w2 C r=>by
     match gs,C with
     | [g0,g1,g2,g3,g4,g5,g6,g7],_=>exact ⟨fun v=>rfl,Pz rfl (show (execOp _ _).run prog w2=_ from by go_simp;exact ⟨rfl,rfl⟩) (eY _) ((lZ (w:=w2) (t:=9) pl0).mono r.size)⟩⟩
   | 1,_=>exact ⟨_,rfl,fun gs w2 C r=>by
     match gs,C with
     | [g0,g1,g2,g3,g4,g5,g6,g7],_=>exact ⟨fun v=>rfl,Pz rfl (show (execOp _ _).run prog w2=_ from by go_simp;exact ⟨rfl,rfl⟩) (eY _) ((lZ (w:=w2) (t:=9) pl1).mono r.size)⟩⟩
   | 2,_=>exact ⟨_,rfl,fun gs w2 C r=>by
     match gs,C with
     | [g0,g1,g2,g3,g4,g5,g6,g7],_=>exact ⟨fun v=>rfl,oG (f:=146) (args:=#[]) rfl Zn ((H6 w2).mono fun _ _ h=>let ⟨v,g,j,h3⟩:=h;⟨v,g,j,h3.mono r.size⟩)⟩⟩
   | 3,_=>exact ⟨_,rfl,fun gs w2 C r=>by
     match gs,C with
     | [g0,g1,g2,g3,g4,g5,g6,g7],_=>exact ⟨fun v=>rfl,oG (f:=146) (args:=#[]) rfl Zn ((H6 w2).mono fun _ _ h=>let ⟨v,g,j,h3⟩:=h;⟨v,g,j,h3.mono r.size⟩)⟩⟩
   | 4,_=>exact ⟨_,rfl,fun gs w2 C r=>by
     match gs,C with
     | [g0,g1,g2,g3,g4,g5,g6,g7],_=>exact ⟨fun v=>rfl,oG (f:=147) (args:=#[]) rfl Zn ((GY w2).mono fun _ _ h=>let ⟨v,g,j,h3⟩:=h;⟨v,g,j,h3.mono r.size⟩)⟩⟩
   | 5,_=>exact ⟨_,rfl,fun gs w2 C r=>by
     match gs,C with
     | [g0,g1,g2,g3,g4,g5,g6,g7],_=>exact ⟨fun v=>rfl,oG (f:=147) (args:=#[]) rfl Zn ((GY w2).mono fun _ _ h=>let ⟨v,g,j,h3⟩:=h;⟨v,g,j,h3.mono r.size⟩)⟩⟩
   | 6,_=>exact ⟨_,rfl,fun gs w2 C r=>by
     match gs,C with
     | [g0,g1,g2,g3,g4,g5,g6,g7],_=>exact ⟨fun v=>rfl,oG (f:=148) (args:=#[]) rfl Zn ((GJ w2).mono fun _ _ h=>let ⟨v,g,j,h3⟩:=h;⟨v,g,j,h3.mono r.size⟩)⟩⟩
   | 7,_=>exact ⟨_,rfl,fun gs w2 C r=>by
     match gs,C with
     | [g0,g1,g2,g3,g4,g5,g6,g7],_=>exact ⟨fun v=>rfl,oG (f:=148) (args:=#[]) rfl Zn ((GJ w2).mono fun _ _ h=>let ⟨v,g,j,h3⟩:=h;⟨v,g,j,h3.mono r.size⟩)⟩⟩
 ·intro ds p hd hp
  match ds,hd with
   | [b0,b1,b2,b3,b4,b5,b6,b7],_ =>
    match p,hp with
    | 0,_=>rfl
    | 1,_=>rfl
    | 2,_=>rfl
    | 3,_=>rfl
    | 4,_=>rfl
    | 5,_=>rfl
    | 6,_=>rfl
    | 7,_=>rfl
 ·intro gs W C aa u
  match gs,C with
  | [g0,g1,g2,g3,g4,g5,g6,g7],_ =>
   have n0:bN z.heap.size W g0 pl0:=u 0 _ rfl;have n1:bN z.heap.size W g1 pl1:=u 1 _ rfl;have n2:bN z.heap.size W g2 pl2:=u 2 _ rfl;have n3:bN z.heap.size W g3 pl3:=u 3 _ rfl;have n4:bN z.heap.size W g4 pl4:=u 4 _ rfl;have n5:bN z.heap.size W g5 pl5:=u 5 _ rfl;have n6:bN z.heap.size W g6 pl6:=u 6 _ rfl;have n7:bN z.heap.size W g7 pl7:=u 7 _ rfl;obtain ⟨D,O,e0,_⟩:=id n0;obtain ⟨B1,Q,e1,_⟩:=id n1;obtain ⟨F,R,e2,_⟩:=id n2;obtain ⟨G,T,e3,_⟩:=id n3;obtain ⟨I,U,e4,_⟩:=id n4;obtain ⟨J,V,e5,_⟩:=id n5;obtain ⟨L,X,e6,_⟩:=id n6;obtain ⟨N,Y,e7,_⟩:=id n7
   have ad:∀(i:Nat) v l,([g0,g1,g2,g3,g4,g5,g6,g7]:List Value)[i]?=some v->iG[i]?=some l->bN z.heap.size W v l:=fun i v l g j=>by
    match i,g,j with
    | 0,g,j=>cases g;cases j;exact n0
    | 1,g,j=>cases g;cases j;exact n1
    | 2,g,j=>cases g;cases j;exact n2
    | 3,g,j=>cases g;cases j;exact n3
    | 4,g,j=>cases g;cases j;exact n4
    | 5,g,j=>cases g;cases j;exact n5
    | 6,g,j=>cases g;cases j;exact n6
    | 7,g,j=>cases g;cases j;exact n7
    | n+8,g,_=>simp at g
   clear n0 n1 n2 n3 n4 n5 n6 n7 u;subst e0 e1 e2 e3 e4 e5 e6 e7;have Z:=hide ad;have ac:=HX.out.2.1.below aa HX.out.2.1.lt;simp only [List.replicate,List.getD_cons_zero,List.getD_cons_succ];refine ak (i:=20) (oi:=?_) (v:=.agg #[.slice D pl0.length O,.slice B1 pl1.length Q,.slice F pl2.length R,.slice G pl3.length T,.slice I pl4.length U,.slice J pl5.length V,.slice L pl6.length X,.slice N pl7.length Y]) ?_ ?_ ?_ ?_ ?_ ?_ ?_ aa ?_;rotate_left 1
   ·(first | (simp only [Jx,Q2,Q1];exact rfl) | exact rfl)
   ·kernel_rfl
   ·kernel_rfl
   ·kernel_rfl
   ·kernel_rfl
   ·exact fun _ _ _ h=>h
   ·refine Or.inl ⟨Z5,fun w A=>?_⟩
    clear A;go_simp
   try simp only [Act.put,J0,JT,Y0]
   refine au (rs:=[21]) Z1 Z3 ?_;refine ai.late (o:=?_) ?_ rfl (fun K hK=>?_) ai.nil;rotate_left 1
   ·(first | (simp only [Jx,Q2,Q1];exact rfl) | exact rfl)
   refine FY rfl (UG (x:=.tmp 0) (y:=.tmp 24) _ rfl _ Z5 Z5 _ ac) ?_;refine hK.out _ _ ?_;clear hK K
   try simp only [Act.put,J0,JT,Y0]
   refine cB Z1 ?_ _;have B:=Jk ac (.slice D pl0.length O) (.slice B1 pl1.length Q) (.slice F pl2.length R) (.slice G pl3.length T) (.slice I pl4.length U) (.slice J pl5.length V) (.slice L pl6.length X) (.slice N pl7.length Y);have am:=JS (HX.out.1.trans (aa.mono HX.out.1.size)) (Y2 _) (.slice D pl0.length O) (.slice B1 pl1.length Q) (.slice F pl2.length R) (.slice G pl3.length T) (.slice I pl4.length U) (.slice J pl5.length V) (.slice L pl6.length X) (.slice N pl7.length Y);have HN:=hide (fun (i:Nat) v l (g:([.slice D pl0.length O,.slice B1 pl1.length Q,.slice F pl2.length R,.slice G pl3.length T,.slice I pl4.length U,.slice J pl5.length V,.slice L pl6.length X,.slice N pl7.length Y]:List Value)[i]?=some v) (j:iG[i]?=some l)=>(JE (Z.out i v l g j) HX.out.2.1.lt (.slice D pl0.length O) (.slice B1 pl1.length Q) (.slice F pl2.length R) (.slice G pl3.length T) (.slice I pl4.length U) (.slice J pl5.length V) (.slice L pl6.length X) (.slice N pl7.length Y)).mono HX.out.1.size);generalize vY W w.heap.size (.slice D pl0.length O) (.slice B1 pl1.length Q) (.slice F pl2.length R) (.slice G pl3.length T) (.slice I pl4.length U) (.slice J pl5.length V) (.slice L pl6.length X) (.slice N pl7.length Y)=wF at B am HN ⊢;clear ac aa Z;go_wp2_with fail;have q0:=B.cell 0;have q1:=B.cell 1;have q2:=B.cell 2;have q3:=B.cell 3;have q4:=B.cell 4;have q5:=B.cell 5;have q6:=B.cell 6;have q7:=B.cell 7;simp only [Jx,Q1,Q2] at q0 q1 q2 q3 q4 q5 q6 q7;exact bodyPost_ret (v:=.agg #[.slice D pl0.length O,.slice B1 pl1.length Q,.slice F pl2.length R,.slice G pl3.length T,.slice I pl4.length U,.slice J pl5.length V,.slice L pl6.length X,.slice N pl7.length Y]) (by simp [results,results84,go_sem,q0,q1,q2,q3,q4,q5,q6,q7]) rfl ⟨D,pl0.length,O,B1,pl1.length,Q,F,pl2.length,R,G,pl3.length,T,I,pl4.length,U,J,pl5.length,V,L,pl6.length,X,N,pl7.length,Y,rfl,HN.out,am⟩
 ·exact fun p v g=>by
   match p,g with
   | 0,g=>cases g
   | 1,g=>cases g
   | 2,g=>cases g
   | 3,g=>cases g
   | 4,g=>cases g
   | 5,g=>cases g
   | 6,g=>cases g
   | 7,g=>cases g
   | n+8,g=>simp at g
end
end Go.Proofs.YtnhekaepgpbijaaGreatDoor
