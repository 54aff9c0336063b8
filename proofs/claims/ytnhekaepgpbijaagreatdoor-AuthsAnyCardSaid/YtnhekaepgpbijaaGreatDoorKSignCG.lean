/- Several of my texts in one: RdrE, ParseE, Owner, OwnerR, SignC, RdrF, RdrH, RdrG, Two, Opq, Fld, PayD. -/
import Derived.Test.YtnhekaepgpbijaaGreatDoorKAli
import Derived.Test.YtnhekaepgpbijaaGreatDoorKSignQG
import Derived.Test.YtnhekaepgpbijaaGreatDoorKCardCG
import Derived.Test.YtnhekaepgpbijaaGreatDoorKParseAG
import Derived.Test.YtnhekaepgpbijaaGreatDoorKKxPGG
import Derived.Test.YtnhekaepgpbijaaGreatDoorKCfDG
set_option linter.unusedVariables false
set_option linter.unusedSimpArgs false
set_option maxHeartbeats 40000000
set_option maxRecDepth 100000
namespace Go.Proofs.YtnhekaepgpbijaaGreatDoor
open Go.Proofs.Tryz Go.RowKit Go.ChangeShapes Go.WideShapes Go.Sort
variable {alg service user x:ByteArray} {l:List Tm} {i j m q:Nat} {k n:Int} {o:Option Tm} {e:Ending} {a p_:Prop}
theorem PT {t:Tm} (h:eU x l=some t):t=.mk 5 0 0 x l:=by
 unfold eU at h
 split at h
 ·injection h with h
  exact h.symm
 ·cases h
theorem Lg (hi:i<l.length) (h8:l.length<=8) (h:i=0\/eU x (l.take i)=some (.mk 5 0 0 x (l.take i))) :
  (Bu (eU x (l.take i)) (some l[i])=none/\eU x l=none)\/∃r,Bu (eU x (l.take i)) (some l[i])=some (.mk 5 0 0 x r)/\r.length=i+1/\((r[i]?=some l[i]/\eU x (l.take (i+1))=some (.mk 5 0 0 x (l.take (i+1)))/\r=l.take (i+1))\/(r[i]?≠some l[i]/\eU x l=none)):=by
 have j:(l.take i).length=i:=ZS;have o:l.take (i+1)=l.take i++[l[i]]:=Yh hi
 cases e:eU x (l.take i) with
 | none =>
  rcases h with rfl | h
  ·rw [List.take_zero,vR] at e
   exact .inl ⟨rfl,Dt e⟩
  ·rw [e] at h
   cases h
 | some t =>
  obtain rfl:=PT e
  by_cases v:l[i].k=2
  ·obtain ⟨s1,z,A⟩:=FQ e v Z0
   rw [j] at z A;refine .inr ⟨ins l[i] (l.take i),s1,by rw [uT,j],?_⟩
   by_cases q:(ins l[i] (l.take i))[i]?=some l[i]
   ·obtain ⟨C,u⟩:=z q
    exact .inl ⟨q,by rw [o];exact u,by rw [o];exact C⟩
   ·refine .inr ⟨q,?_⟩
    have:=A q (l.drop (i+1));rw [<-o,List.take_append_drop] at this;exact this
  ·refine .inl ⟨?_,ED (Yf hi) v⟩
   show (if _ then _ else _)=none;rw [Y5];rintro ⟨_,u,_⟩;exact v u
section
variable {B b g p p0 N : Nat} {s : ByteArray} {T : List Tm} {S : Nat -> Prop} {w w1 w2 : World} {c : UInt8} {s1 : List UInt8}
structure ShI (B b g:Nat) (s:ByteArray) (p':Nat) (x:ByteArray) (l:List Tm) (gb:Nat) (T:List Tm) (S:Nat->Prop) (w:World) (i:Nat) (T':List Tm) (S':Nat->Prop) (t:Int) (wr:World):Prop where
 rd:Rd B b g s p' T' S' wr
 grown:Grown (SR b S) w (SR b S') wr
 pre:T <+: T'
 few:T'.length<=T.length+1+i
 id:Idn T' (eU x (l.take i)) t
 ok:i=0\/eU x (l.take i)=some (.mk 5 0 0 x (l.take i))
 cell:∀(k:Nat) (u:Tm),l[k]?=some u->∃m:Int,wr.cell? ⟨gb,k,none⟩=some (.int .i64 m)/\Idn T' (some u) m
 out:0<l.length->¬ SR b S' gb/\gb<wr.heap.size
theorem MU {k:Nat} {u:Tm} (h:l[k]?=some u):0<l.length:=by
 have:=(Yx.1 h).1;omega
theorem ShI.step {F:Nat} {gb:Nat} {A j:List Tm} {G z:Nat->Prop} {t m:Int} {wr:World} (h:ShI B b g s F x l gb T S w i A G t wr) (q:Grown G wr z w1) (O:Ar B w1 g j z) (hp:A <+: j) (V:j.length<=A.length+1) (P:j.length+2*(s.size - F)<=900000000) (v:Below w1.heap.size w1 w2)
  (Q:Idn j o m) (R:o=eU x (l.take (i+1))) (D:eU x (l.take (i+1))=some (.mk 5 0 0 x (l.take (i+1)))):ShI B b g s F x l gb T S w (i+1) j z m w2 :=
 ⟨(h.rd.grown q O P).below v,(h.grown.trans (q.sr b)).trans (Grown.of_below v),h.pre.trans hp,by have:=h.few;omega,R ▸ Q,.inr D,fun k u I=>by
  obtain ⟨U,K,L⟩:=h.cell k u I;obtain ⟨C,r⟩:=h.out (MU I)
  exact ⟨U,(v.cell (p:=⟨gb,k,none⟩) (Yi r q.size)).trans (q.outs.cell K (fun h9=>C (.inl h9))),L.pre hp⟩,fun J=>by
  obtain ⟨C,r⟩:=h.out J
  exact ⟨(q.sr b).notin2 C r,Yi (Yi r q.size) v.size⟩⟩
theorem Eh {T:List Tm} {w w':World} {t:Tm} (h:arg T n=some t) (hi:i<t.l.length) (K:Ad T n w e w') :
  ∃o D m L x1 x2 O,e=.returned (.tuple #[.agg #[.int .i64 L,.int .i64 x1,.int .i64 x2,.string O,.slice (some ⟨o,0,none⟩) t.l.length D],.bool true])/\w'.cell? ⟨o,i,none⟩=some (.int .i64 m)/\Idn T (t.l[i]?) m/\o<w'.heap.size/\Below w.heap.size w w':=by
 obtain ⟨js,A,c,z,rfl,j,I⟩:=oQ h K;have J:=z.len;obtain ⟨o,cap,u,_,r⟩:=j.form Z0;have F:A=some ⟨o,0,none⟩:=by injection u
 subst F;obtain ⟨c1,q,G⟩:=z.at_ (p:=i) Z0;have C:=j.cells (g:=o) rfl i (.int .i64 (js[i]'Z0:Nat)) (by rw [Yt,Yt,Y1 Z0];rfl);rw [cu] at C;refine ⟨o,c,(js[i]'Z0:Nat),t.k,t.a,t.b,t.s,rfl,C,⟨by rw [Be,G,q],fun v=>by rw [q] at v;cases v⟩,r,I⟩
theorem LH (IH:fe B b g s N) (h:Rd B b g s (p0+1) T S w) (hN:s.size - (p0+1)<N) (h1:s.data.toList.drop p0=c :: s.data.toList.drop (p0+1)) (Z:c.toNat=245) (hK:T.length+2*(s.size - p0)<=900000000) :
  Calls prog 170 #[.pointer (some ⟨b,0,none⟩)] w (Got B b g s p0 (p0+1) T S w):=by
 have HX:=hide (xA h);have H1:=hide h1;have a5:=hide IH;have bm:=h.len;have b4:=h.hs;clear h h1 IH;go_enter func170,ntmps170;go_wp2_with fail;refine HX.out.mono ?_;rintro e w1 (⟨p1,rfl,af,hR,hG,ad⟩ | ⟨n,hn,h5,rfl,hR,hG⟩)
 ·go_wp2_with fail
  go_ret;refine jD ?_ hR hG ad;rw [H1.out];exact no5 Z Z0
 ·have e1:p0+1+4+n=p0+1+(4+n):=by omega
  have bd:(bs ((s.data.toList.drop (p0+1+4)).take n)).size<=131072:=by
   show ((s.data.toList.drop (p0+1+4)).take n).length<=131072;rw [Yq,Yu,aC];omega
  by_cases Y:s.size<p0+1+4+n+4
  ·have HC:=hide (uy hR 8 Y)
   go_wp2_with fail;refine HC.out.mono ?_;rintro e w2 ⟨p2,rfl,v,C,a0⟩;go_wp2_with fail;go_ret;refine jD ?_ v (hG.trans C) Z0;rw [H1.out];exact Vp Z Z0 Z0
  ·obtain ⟨m,hm⟩:∃m,m=n4 (s.data.toList.drop (p0+1+4+n)):=⟨_,rfl⟩
   have hH:Hed 5 0 0 (bs ((s.data.toList.drop (p0+1+4)).take n)) m (s.data.toList.drop (p0+1)) (s.data.toList.drop (p0+1+4+n+4)):=by
    have:=VK (s1:=s.data.toList.drop (p0+1)) Z0 Z0;rw [Yr,Yr,Yr,<- hn,<- e1,<- hm] at this;rw [show p0+1+4+n+4=p0+1+(8+n) by omega];exact this
   by_cases bc:(8:Int)<(m:Int)
   ·have HC:=hide (uk hR 8 Z0 hm bc)
    go_wp2_with fail;refine HC.out.mono ?_;rintro e w2 ⟨p2,rfl,v,C,a0⟩;go_wp2_with fail;go_ret;refine jD ?_ v (hG.trans C) Z0;rw [H1.out];exact hH.nohd Z (fun hh=>by simp only [hd] at hh;omega)
   ·have HC:=hide (ul a5.out hR Z0 8 Z0 hm Z0 Z0)
    have HH:=hide hH;clear hH hm hn e1;generalize hx:bs ((s.data.toList.drop (p0+1+4)).take n)=x at HH bd ⊢;clear hx;go_wp2_with fail;refine HC.out.mono ?_;rintro e w2 (⟨T1,S1,p1,rfl,a7,v,C,F,hl,ad⟩ | ⟨T1,S1,p1,l,A,cz,rfl,hg,P,he,z,v,C,F,hl,ad⟩)
    ·go_wp2_with fail
     go_ret;exact ⟨T1,-1,S1,p1,none,rfl,dB _,si H1.out Z HH.out a7,v,hG.trans C,F,Z0,Z0⟩
    ·obtain ⟨gb,aw,V⟩:∃gb,(0<m->A=some ⟨gb,0,none⟩/\gb<w2.heap.size/\¬ SR b S1 gb)/\(∀(k:Nat) (u:Tm),l[k]?=some u->∃q:Int,w2.cell? ⟨gb,k,none⟩=some (.int .i64 q)/\Idn T1 (some u) q):=by
      rcases Nat.eq_zero_or_pos m with h0 | h0
      ·subst h0
       obtain rfl:l=[]:=Yc P;exact ⟨0,fun h=>absurd h Z0,fun k u hk=>by simp at hk⟩
      ·obtain ⟨gb,rfl,ba,Z⟩:=j4 z P h0
       exact ⟨gb,fun _=>⟨rfl,ba,z.out gb rfl⟩,Z⟩
     have a9:=kw v;have HB:=hide (Jz v.use (s:=x) Z0);have av:=hide v;have U:=hide (hG.trans C);have K:=hide aw;have J:=hide V;have br:=v.few;have b0:=v.hp;clear v C z hG hR aw V HC HX;go_wp2_with fail;refine HB.out.mono ?_;rintro e w3 ⟨T2,t0,S2,rfl,O,aq,j⟩;have aF:=O.len
     have a4:Hid (ShI B b g s p1 x l gb T1 S1 w2 0 T2 S2 t0 w3):=hide ⟨av.out.grown j aq Z0,j.sr b,O.pre,Z0,by rw [List.take_zero,vR];exact O.idn,.inl rfl,fun k u hk=>by
      obtain ⟨q,h1,h2⟩:=J.out k u hk;obtain ⟨h3,Y,h5⟩:=K.out (by have:=MU hk;omega)
      exact ⟨q,j.outs.cell h1 (fun h9=>h5 (.inl h9)),h2.pre O.pre⟩,fun h0=>by
      obtain ⟨h3,Y,h5⟩:=K.out Z0
      exact ⟨(j.sr b).notin2 h5 Y,Yi Y j.size⟩⟩
     have a6:0<m->A=some ⟨gb,0,none⟩:=fun h=>(K.out h).1
     clear a9 HB O aq j aF K J;have H2:=hide he;clear he;go_wp2_with fail
     go_loopw [33,6] (fun vi vt wr=>∃(i:Nat) (T':List Tm) (S':Nat->Prop) (t:Int),vi=.int .i64 i/\vt=.int .i64 t/\i<=m/\ShI B b g s p1 x l gb T1 S1 w2 i T' S' t wr) (fun vi _ _=>m - (intOf vi).toNat)
     case atStart=>exact ⟨0,T2,S2,t0,rfl,rfl,Yb _,a4.out⟩
     case round =>
      obtain ⟨i,T',S',t,rfl,rfl,hi,z⟩:=hrel
      by_cases bw:i<m
      ·have bb:(i:Int)<m:=by omega
       obtain rfl:=a6 Z0;obtain ⟨q,bq,hq⟩:=z.cell i l[i] (Y1 Z0);have HE:=hide (Oq z.rd.use t q);rw [z.id.1,hq.1] at HE;have bo:=kw z.rd;have Hn:=hide (Lg (x:=x) (i:=i) (l:=l) Z0 Z0 z.ok);have HI:=hide z;have bh:=z.few;have Hq:=hide hq;clear z hq;go_wp2_with fail;refine HE.out.mono ?_;rintro e w4 ⟨T3,t3,S3,rfl,O,G,j⟩;have aF:=O.len;have D:=HI.out.rd.grown j G Z0;have bn:=kw D;have HV:=hide (sV G t3);rcases Hn.out with ⟨af,ab⟩ | ⟨r,ao,b3,an⟩
       ·have ap:=hide (af ▸ O.idn)
        have R:=hide (show Got B b g s p0 (p0+1) T S w (.returned (.int .i64 (-1))) w4 from ⟨T3,-1,S3,p1,none,rfl,dB _,ab ▸ lY D.hs H1.out Z Z0 HH.out hg P H2.out (nP x l Z0),D,U.out.trans (HI.out.grown.trans (j.sr b)),F.trans (HI.out.pre.trans O.pre),Z0,Z0⟩);clear O G j D af ab;go_wp2_with fail;refine HV.out.mono ?_;intro e w5 hv;obtain ⟨rfl,hb5⟩:=zu ap.out.1 hv;clear hv;go_wp2_with fail;go_ret;obtain ⟨T',n',S',p',o,ac,h2,h3,Y,h5,h6⟩:=R.out;cases ac
        have I:=hb5.alloc hb5.size (.cells #[.int .i64 0,.int .i64 0,.int .i64 0,.string ⟨#[]⟩,.slice none 0 0] 126);exact ⟨T',-1,S',p',o,rfl,h2,h3,Y.below I,h5.trans (Grown.of_below I),h6⟩
       ·have L:=ao ▸ O.idn
        have hX:=O.pre;clear O;go_wp2_with fail;refine HV.out.mono ?_;intro e w5 hv;obtain ⟨gv,cv,q',x0,x1,x2,x3,rfl,bp,am,bt,hb5⟩:=Eh (i:=i) L.1 (by show i<r.length;omega) hv;clear hv;have bj:(i:Int)<r.length:=Z0;have aa:q'=q↔r[i]?=some l[i]:=am.eq_iff G.ok (Hq.out.pre hX);have bg:(Tm.mk 5 0 0 x r).l.length=r.length:=rfl;rw [bg];rcases an with ⟨X,Q,a3⟩ | ⟨X,Q⟩
        ·obtain rfl:=aa.2 X
         have HS:=hide (fun w6 (I:Below w4.heap.size w4 w6)=>HI.out.step j G hX Z0 Z0 I L (by rw [a3] at *;exact Q.symm) Q);clear G j D ao L X Q a3 aa am hX;go_wp2;exact ⟨⟨i+1,T3,S3,t3,Zr,rfl,Z0,HS.out _ (hb5.alloc hb5.size _)⟩,Zh⟩
        ·have bx:¬ q'=q:=fun h=>X (aa.1 h)
         have R:=hide (show Got B b g s p0 (p0+1) T S w (.returned (.int .i64 (-1))) w4 from ⟨T3,-1,S3,p1,none,rfl,dB _,Q ▸ lY D.hs H1.out Z Z0 HH.out hg P H2.out (nP x l Z0),D,U.out.trans (HI.out.grown.trans (j.sr b)),F.trans (HI.out.pre.trans hX),Z0,Z0⟩);clear G j D ao L X Q aa am hX;go_wp2;go_ret;obtain ⟨T',n',S',p',o,ac,h2,h3,Y,h5,h6⟩:=R.out;cases ac
         have I:=hb5.alloc hb5.size (.cells #[.int .i64 x0,.int .i64 x1,.int .i64 x2,.string x3,.slice (some ⟨gv,0,none⟩) (i+1) cv] 126);exact ⟨T',-1,S',p',o,rfl,h2,h3,Y.below I,h5.trans (Grown.of_below I),h6⟩
      ·obtain rfl:i=m:=by omega
       have bb:¬ (i:Int)<i:=Z0;have HI:=hide z;have be:=z.rd.hs;have bl:=z.few;have a8:=hide (lY be H1.out Z Z0 HH.out hg P H2.out (nP x l Z0));clear z;go_wp2;go_ret;have z:=HI.out;have aE:=z.id;rw [<-P,List.take_length] at aE;exact ⟨T',t,S',p1,eU x l,rfl,aE,a8.out,z.rd,U.out.trans z.grown,F.trans z.pre,Z0,Z0⟩
end
theorem yS (s:ByteArray) (p:Nat) (hp:p=s.size) (hs:s.size<=131072) (w:World):Calls prog 263 #[.string s,.int .i64 p] w (jM s p w):=by
 have g:=hide (show NoT (s.data.toList.drop p) by
  rw [List.drop_eq_nil_of_le (by show s.size<=p;omega)]
  exact Rk)
 have hi:¬ (p:Int)<s.size:=Z0;have hi2:(s.size:Int)<=p:=Z0;clear hp;go_enter func263,ntmps263;go_wp2_with fail;exact bodyPost_ret (v:=.tuple #[.agg #[.int .i64 0,.int .i64 0,.int .i64 0,.string ⟨#[]⟩,.slice none 0 0],.int .i64 p,.bool false]) (by simp [results,results263,go_sem]) rfl (jM.no g.out Z4)
theorem yG (s:ByteArray) (hs:s.size<=131072):∀(m p:Nat) (w:World),s.size - p<=m->p<=s.size->Calls prog 263 #[.string s,.int .i64 p] w (jM s p w):=by
 intro m
 induction m with
 | zero=>exact fun p w g h=>yS s p Z0 hs w
 | succ m ih =>
  intro p w g h
  by_cases hp:p<s.size
  ·exact Es s hs m ih p hp g w
  ·exact yS s p Z0 hs w
theorem Jv {t:Tm} (o:fine t) (w:World):Calls prog 263 #[.string (bs (enc t)),.int .i64 0] w fun e w'=>Below w.heap.size w w'/\∃(A:Option Addr) (c:Nat),TxL w.heap.size w' (.slice A t.l.length c) (t.l.map enc) /\
  e=.returned (.tuple #[.agg #[.int .i64 t.k,.int .i64 t.a,.int .i64 t.b,.string t.s,.slice A t.l.length c],.int .i64 ((enc t).length:Nat),.bool true]):=by
 refine (yG (bs (enc t)) (by rw [aI];exact o.2) _ 0 w (Y2 _) (Yb _)).mono ?_;rintro e w' ⟨r,h⟩;refine ⟨r,?_⟩;rw [List.drop_zero,aO] at h;rcases h with ⟨z,_⟩ | ⟨u,q,A,n,c,v,_,B,he,g,rfl⟩
 ·exact absurd Z3 (z t [] o.1)
 ·obtain ⟨rfl,hd⟩:=mX t u [] _ o.1 v (by rw [List.append_nil];exact he)
  have j:q=(enc t).length:=by
   have h9:=Ye List.length hd;rw [Yu] at h9;rw [aI] at B;simp only [YL] at h9;omega
  subst j;obtain ⟨C,D,p,F⟩:=g.txs.open_;injection p with e1 e2 e3;subst e1 e2;rw [Yd] at g ⊢;exact ⟨A,c,g,rfl⟩
def iM (o:Option Tm):Bool:=match o with
 | some t=>t.k == 4
 | none=>false
def fC (o:Option Tm):Nat:=match o with
 | some t=>if t.k=4 then (match t.l with
  | c :: _=>c.a
  | []=>0) else 0
 | none=>0
theorem AA {t:Tm} (h:good t) (j:t.k=4):∃c,t.l=[c]/\good c/\c.k=3:=by
 cases t with
 | mk k a b s l =>
  simp only [Tm.k] at j;subst j;simp only [good] at h;obtain ⟨o,p,q⟩:=h
  have r:l.length=1:=by
   simp only [hd] at o;omega
  match l,r with
  | [c],_ =>
   refine ⟨c,rfl,(gT _).1 q c Z3,?_⟩;simpa [kids] using p
section
variable {B g : Nat} {w : World} {T : List Tm} {S : Nat -> Prop}
theorem tZ (h:Ar B w g T S) (J:Idn T o n):Calls prog 54 #[.pointer (some ⟨g,0,none⟩),.int .i64 n] w (fun e w'=>e=.returned (.tuple #[.int .i64 (fC o),.bool (iM o)])/\Below w.heap.size w w'):=by
 have V:=hide (sV h n);have H:=hide h
 cases o with
 | none =>
  go_enter func54,ntmps54;go_wp2_with fail;refine V.out.mono ?_;intro e w1 r;obtain ⟨rfl,z⟩:=zu J.1 r;clear r;go_wp2_with fail;go_ret2;exact ⟨rfl,z.alloc z.size _⟩
 | some t =>
  have I:=(h.ok.fine t (Ip J.1)).1
  by_cases C:t.k=4
  ·obtain ⟨c,U,Z,_⟩:=AA I C
   have D:t.l.length=1:=by rw [U];rfl
   have L:fC (some t)=c.a:=by
    show (if t.k=4 then _ else _)=_;rw [Y6 C,U]
   have N:iM (some t)=true:=by
    show (t.k == 4)=true;rw [C];rfl
   rw [L,N];have X:=hide J;have Hc:=hide U;have Hl:=hide D;have Hk:=hide C;clear h J U L N I Z D C;go_enter func54,ntmps54;go_wp2_with fail;refine V.out.mono ?_;intro e w1 r;obtain ⟨js,A,cc,R,rfl,j,z⟩:=oQ X.out.1 r;clear r;have P:=R.len;rw [Hl.out] at P j ⊢;obtain ⟨Y,cap,Q,_,ad⟩:=j.form Z0;obtain rfl:A=some ⟨Y,0,none⟩:=by injection Q
   obtain ⟨c1,G,hT⟩:=R.at_ (p:=0) Z0;rw [Hc.out] at G;obtain rfl:c=c1:=by simpa using G
   have q:=j.cells (g:=Y) rfl 0 (.int .i64 (js[0]'Z0:Nat)) (by rw [Yt,Yt,Y1 Z0];rfl);rw [cu] at q;have v:arg T (js[0]'Z0:Nat)=some c:=by rw [Be];exact hT
   have aa:=Hk.out;rw [aa] at *;have F:=z.alloc z.size (.cells #[.int .i64 (4:Nat),.int .i64 t.a,.int .i64 t.b,.string t.s,.slice (some ⟨Y,0,none⟩) 1 cc] 126);have K:=hide (sV (H.out.below F) (js[0]'Z0:Nat));have u:=hide v;generalize ((js[0]'Z0:Nat):Int)=m at q K u;clear R j Q hT G P v;go_wp2_with fail;refine K.out.mono ?_;intro e w2 r;obtain ⟨af,A2,ab,_,rfl,_,hb3⟩:=oQ u.out r;clear r;have O:=F.trans (hb3.mono F.size);go_wp2_with fail;go_ret2;exact ⟨rfl,O.alloc O.size _⟩
  ·have L:fC (some t)=0:=by
    show (if t.k=4 then _ else _)=_;rw [Y5 C]
   have N:iM (some t)=false:=by
    show (t.k == 4)=false;simpa using C
   rw [L,N];have ac:((t.k:Int) == 4)=false:=ZQ;have X:=hide J;clear h J L N I C;go_enter func54,ntmps54;go_wp2_with fail;refine V.out.mono ?_;intro e w1 r;obtain ⟨js,A,cc,R,rfl,j,z⟩:=oQ X.out.1 r;clear r;go_wp2_with fail;go_ret2;exact ⟨rfl,z.alloc z.size _⟩
end
section
variable {w : World}
theorem KE {t:Tm} (P:fine t) (w:World):Calls prog 197 #[.string (bs (enc t))] w (fun e w'=>∃A n c,e=.returned (.agg #[.int .i64 t.k,.int .i64 t.a,.int .i64 t.b,.string t.s,.slice A n c])/\Below w.heap.size w w'):=by
 have z:=hide (fun W=>Jv P W);generalize bs (enc t)=x at z ⊢;go_enter func197,ntmps197;go_wp2_with fail;have o:=(Below.refl w.heap.size w).alloc (Y2 _) (.cells #[.int .i64 0,.int .i64 0,.int .i64 0,.string ⟨#[]⟩,.slice none 0 0] 274);have j:=Blk.new w 274 #[.int .i64 0,.int .i64 0,.int .i64 0,.string ⟨#[]⟩,.slice none 0 0];refine (z.out _).mono ?_;rintro e w1 ⟨q,A,c,_,rfl⟩;have g:=j.below q j.lt;have r:=o.trans (q.mono o.size);have C:=g.lt;have D:=g.cell 0;have F:=g.cell 1;have G:=g.cell 2;have I:=g.cell 3;have J:=g.cell 4;simp only [Jx,Q1,Q2] at D F G I J;have L:=g.frozen 0;have f1:=g.frozen 1;have f2:=g.frozen 2;have N:=g.frozen 3;have O:=g.frozen 4;have Q:=Nat.ne_of_lt C;clear z j o q;go_wp2_with fail
 obtain ⟨W,u⟩:∃W,W=(((((w1.setCell ⟨w.heap.size,0,none⟩ (.int .i64 t.k)).setCell ⟨w.heap.size,1,none⟩ (.int .i64 t.a)).setCell ⟨w.heap.size,2,none⟩ (.int .i64 t.b)).setCell ⟨w.heap.size,3,none⟩ (.string t.s)).setCell ⟨w.heap.size,4,none⟩ (.slice A t.l.length c)).alloc (.cells #[.int .i64 t.k,.int .i64 t.a,.int .i64 t.b,.string t.s,.slice A t.l.length c] 274):=⟨_,rfl⟩
 rw [<-u]
 have h:Blk W w.heap.size 274 #[.int .i64 t.k,.int .i64 t.a,.int .i64 t.b,.string t.s,.slice A t.l.length c]:=by
  rw [u];have:=(((((g.set_ 0 (.int .i64 t.k)).set_ 1 (.int .i64 t.a)).set_ 2 (.int .i64 t.b)).set_ 3 (.string t.s)).set_ 4 (.slice A t.l.length c)).alloc (.cells #[.int .i64 t.k,.int .i64 t.a,.int .i64 t.b,.string t.s,.slice A t.l.length c] 274);simpa using this
 have B:Below w.heap.size w W:=by
  rw [u]
  have hs:=(((((r.setCell (p:=⟨w.heap.size,0,none⟩) (Y2 _) (.int .i64 t.k)).setCell (p:=⟨w.heap.size,1,none⟩) (Y2 _) (.int .i64 t.a)).setCell (p:=⟨w.heap.size,2,none⟩) (Y2 _) (.int .i64 t.b)).setCell (p:=⟨w.heap.size,3,none⟩) (Y2 _) (.string t.s)).setCell (p:=⟨w.heap.size,4,none⟩) (Y2 _) (.slice A t.l.length c))
  exact hs.alloc hs.size _
 have q0:=h.cell 0;have q1:=h.cell 1;have q2:=h.cell 2;have K:=h.cell 3;have q4:=h.cell 4;simp only [Jx,Q1,Q2] at q0 q1 q2 K q4;clear u h g D F G I J L f1 f2 N O;exact bodyPost_ret (v:=.agg #[.int .i64 t.k,.int .i64 t.a,.int .i64 t.b,.string t.s,.slice A t.l.length c]) (by simp [results,results197,go_sem,q0,q1,q2,K,q4]) rfl ⟨A,_,c,rfl,B⟩
theorem RX (g x1 x2:Int) (h:ByteArray) (A:Option Addr) (n c:Nat) (w:World):(Instr.field 274 (.agg #[.int .i64 g,.int .i64 x1,.int .i64 x2,.string h,.slice A n c]) 1).run prog w=.ok (.int .i64 x1) w:=Z1
theorem qy (D:bD o) (w:World):Calls prog 116 #[.string (tx o)] w (fun e w'=>e=.returned (.tuple #[.int .i64 (fC o),.bool (iM o)])/\Below w.heap.size w w'):=by
 have HK:=hide (iU D w)
 by_cases hp:∃t,o=some t/\t.k=4
 ·obtain ⟨t,rfl,p⟩:=hp
  have g:=D t rfl;obtain ⟨c,G,v,_⟩:=AA g.1 p
  have q:fC (some t)=c.a:=by
   show (if t.k=4 then _ else _)=_;rw [Y6 p,G]
  have r:iM (some t)=true:=by
   show (t.k == 4)=true;rw [p];rfl
  rw [q,r]
  have j:enc t=244 :: enc c:=by
   rw [QG,G,p]
   have hs:t.s=eB/\t.a=0/\t.b=0:=by
    have:=g.1
    cases t with
    | mk k a b s l =>
     simp only [Tm.k] at p;subst p;simp only [good,hd] at this;exact ⟨this.1.2.2.2,this.1.1,this.1.2.1⟩
   rw [hs.1,hs.2.1,hs.2.2];simp [head,mid,encs]
  have u:fine c:=⟨v,by have:=g.2;rw [j] at this;simp at this;omega⟩
  have J:(tx (some t)).extract 1 (tx (some t)).size=bs (enc c):=by
   show (bs (enc t)).extract 1 (bs (enc t)).size=_;rw [AX,aO,j,List.drop_succ_cons,List.drop_zero,Yp];have h9:(bs (244 :: enc c)).size=(enc c).length+1:=rfl;rw [h9];omega
  have I:(1:Int)<=(tx (some t)).size:=by
   show (1:Int)<=(enc t).length;rw [j];simp;omega
  have C:(tx (some t)).size<=131072:=g.2;have F:=hide (fun W=>KE u W);rw [<-J] at F;have z:lG (some t)=4:=p;rw [z] at HK;clear J q r j u g z D G v p;generalize tx (some t)=x at HK F I C ⊢;go_enter func116,ntmps116;go_wp2_with fail;refine HK.out.mono ?_;rintro e w1 ⟨rfl,rfl⟩;go_wp2_with fail;refine (F.out _).mono ?_;rintro e w2 ⟨A,n,c2,rfl,K⟩;have L:=RX;go_wp2_with fail;go_ret2;exact ⟨rfl,K⟩
 ·have q:fC o=0:=by
   cases o with
   | none=>rfl
   | some t =>
    show (if t.k=4 then _ else _)=_;rw [Y5 (fun h=>hp ⟨t,rfl,h⟩)]
  have r:iM o=false:=by
   cases o with
   | none=>rfl
   | some t =>
    show (t.k == 4)=false;simpa using (fun h=>hp ⟨t,rfl,h⟩)
  have B:((lG o:Nat):Int)=4->False:=fun h=>by
   cases o with
   | none=>simp [lG] at h
   | some t=>exact hp ⟨t,rfl,by simp [lG] at h;omega⟩
  have N:(((lG o:Nat):Int) == 4)=false:=by rw [Y3];exact B
  rw [q,r];clear q r hp D B;go_enter func116,ntmps116;go_wp2_with fail;refine HK.out.mono ?_;rintro e w1 ⟨rfl,rfl⟩;go_wp2_with fail;go_ret2;exact ⟨rfl,Below.refl _ _⟩
end
def Ql:ByteArray:=⟨#[117,115,101,114]⟩
noncomputable def pG (a b:Prop):ByteArray:=@ite _ a (Classical.propDecidable a) J4 (@ite _ b (Classical.propDecidable b) JZ ⟨#[]⟩)
theorem Ri (s:ByteArray) (w:World) (h:s.size<=1000000):Calls prog 41 #[.string s] w (Says (txt (aM s)) w):=sF s.data.toList w ZP
theorem O0 {b:Prop} (h:a):pG a b=J4:=by unfold pG;rw [Y6 h]
theorem Ty {b:Prop} (h:¬ a) (j:b):pG a b=JZ:=by unfold pG;rw [Y5 h,Y6 j]
theorem Tx {b:Prop} (h:¬ a) (j:¬ b):pG a b=⟨#[]⟩:=by unfold pG;rw [Y5 h,Y5 j]
theorem AU (p q:Option Tm):(p=none\/p≠q)↔(q=none\/q≠p):=by
 constructor
 ·rintro (h | h)
  ·by_cases j:q=none
   ·exact .inl j
   ·exact .inr (by rw [h];exact j)
  ·exact .inr (fun e=>h e.symm)
 ·rintro (h | h)
  ·by_cases j:p=none
   ·exact .inl j
   ·exact .inr (by rw [h];exact j)
  ·exact .inr (fun e=>h e.symm)
def yx (S:Nat->Prop) (W:World) (s1:ByteArray) (k:Int) (s2:ByteArray) (v:Value):Prop :=
 (s2=⟨#[]⟩/\v=.nilIface)\/(s2.size<=1000/\(s2.toList == [])=false/\∃b1 b2,v=.iface 168 (.pointer (some ⟨b1,0,none⟩))/\Flt W b1 b2 s1 s2 k/\¬ S b1/\¬ S b2)
theorem yx.below {S:Nat->Prop} {W j:World} {s1 o:ByteArray} {v:Value} (h:yx S W s1 k o v) (A:Below W.heap.size W j):yx S j s1 k o v:=by
 rcases h with h | ⟨p,q,b1,b2,r,u,z⟩
 ·exact .inl h
 ·exact .inr ⟨p,q,b1,b2,r,u.below A,z⟩
def Va (B:Nat) (w:World) (g:Nat) (T:List Tm) (S:Nat->Prop) (s1:ByteArray) (k:Int) (s2:ByteArray) (m:Nat) (e:Ending) (w':World):Prop :=
 ∃T' S' v,e=.returned v/\T <+: T'/\T'.length<=T.length+m/\Ar B w' g T' S'/\Grown S w S' w'/\yx S' w' s1 k s2 v
theorem Q3:J4.size<=1000/\(J4.toList == [])=false:=⟨Z2,Z7⟩
theorem IE:JZ.size<=1000/\(JZ.toList == [])=false:=⟨Z2,Z7⟩
section
variable {B g : Nat} {w w1 w2 : World} {T T1 : List Tm} {S S1 : Nat -> Prop}
theorem qd {s1 h:ByteArray} (j:Ar B w1 g T1 S1) (q:Grown S w S1 w1) (hp:T <+: T1) (r:T1.length<=T.length+m) (o:h.size<=1000/\(h.toList == [])=false)
  (hw:∃b1 b2,e=.returned (.iface 168 (.pointer (some ⟨b1,0,none⟩)))/\Flt w2 b1 b2 s1 h k/\Below w1.heap.size w1 w2/\w1.heap.size<=b1/\w1.heap.size<=b2):Va B w g T S s1 k h m e w2:=by
 obtain ⟨b1,b2,rfl,hF,p,u,z⟩:=hw;exact ⟨T1,S1,_,rfl,hp,r,j.below p,q.trans (Grown.of_below p),.inr ⟨o.1,o.2,b1,b2,rfl,hF,fun h9=>by have:=j.sL _ h9;omega,fun h9=>by have:=j.sL _ h9;omega⟩⟩
theorem zze82 (h_:p_:=by
 clear e3 e4;go_wp2_with fail;refine (rP Ql JZ 12 (by decide) w3).mono ?_;intro e w4 hw;have hF:=hide (qd (T:=T) (m:=11) HA3.out HG3.out hpre3 hl3 IE hw);obtain ⟨b1,b2,rfl,_⟩:=hw;go_wp2_with fail;go_ret;rw [HE.out]
 exact hF.out):p_:=h_
theorem pM (h:Use B w g T S) {os j:Option Tm} {nk ns:Int} (Q:Idn T os n) (P:Idn T o nk) (hs:Idn T j ns) (I:user.size<=1000000) (J:service.size<=1000000) (K:alg.size<=1000000) (hT:T.length<=1000000) :
  Calls prog 16 #[.pointer (some ⟨g,0,none⟩),.int .i64 n,.string user,.string service,.string alg,.int .i64 nk,.int .i64 ns] w
   (Va B w g T S Ql 12 (pG (iM o=false) (j=none\/j≠lU os user service alg (fC o))) 11):=by
 have HO:=hide (tZ h.ar P);have H:=hide h;have X:=hide hs;have V:=hide Q;clear h hs Q P
 cases F:iM o with
 | false =>
  rw [F] at HO;generalize ((fC o:Nat):Int)=C at HO ⊢;rw [O0 rfl];clear F;go_enter func16,ntmps16;go_wp2_with fail;refine HO.out.mono ?_;rintro e w1 ⟨rfl,u⟩;go_wp2_with fail;refine (rP Ql J4 12 Z2 w1).mono ?_;intro e w2 hw;have hF:=hide (qd (T:=T) (m:=11) (H.out.below u).ar (Grown.of_below u) (Yl _) Z0 Q3 hw);obtain ⟨b1,b2,rfl,_⟩:=hw;go_wp2_with fail;go_ret;exact hF.out
 | true =>
  rw [F] at HO;generalize ((fC o:Nat):Int)=C at HO ⊢;clear F;have G:¬ (true=false):=Z2
  obtain ⟨p,q⟩:∃p,p=lU os user service alg C:=⟨_,rfl⟩
  obtain ⟨R,z⟩:∃R,R=pG (true=false) (j=none\/j≠p):=⟨_,rfl⟩
  rw [<-q,<- z];have N:=hide (fun h=>z.trans (Ty G h));have Y:=hide (fun h=>z.trans (Tx G h));have U:=hide q;clear G z q;go_enter func16,ntmps16;go_wp2_with fail;refine HO.out.mono ?_;rintro e w1 ⟨rfl,u⟩;have L:=hide (LZ (H.out.below u) V.out I J K C hT);go_wp2_with fail;refine L.out.mono ?_;rintro e w3 ⟨T3,n3,Z,rfl,r,hpre3,hl3,A,D⟩;rw [<-U.out] at r;have e3:n3=-1↔p=none:=r.none_iff;have e4:n3=ns↔p=j:=r.eq_iff A.ok (X.out.pre hpre3);have HA3:=hide A;have HG3:=hide ((Grown.of_below u).trans D);clear r A D L
  by_cases c3:n3=-1
  ·have HE:=hide (N.out ((AU _ _).1 (.inl (e3.1 c3))))
   subst c3;exact zze82
  ·by_cases c4:n3=ns
   ·have O:¬ (j=none\/j≠p):=fun h9=>by
     rcases (AU _ _).1 h9 with h8 | h8
     ·exact c3 (e3.2 h8)
     ·exact h8 (e4.1 c4)
    have HE:=hide (Y.out O);subst c4;clear e3 e4 O;go_wp2_with fail;go_ret;rw [HE.out];exact ⟨T3,Z,_,rfl,hpre3,hl3,HA3.out,HG3.out,.inl ⟨rfl,rfl⟩⟩
   ·have HE:=hide (N.out ((AU _ _).1 (.inr (fun h9=>c4 (e4.2 h9)))))
    exact zze82
end
structure Bp (W0 wr:World) (os:List (Option Tm)) (v:Value) (b:Nat) (t:TypeId) (cs:Array Value):Prop where
 bel:Below W0.heap.size W0 wr
 own:wr.ownsRow W0.heap.size 9 1 v os.length (((os.map txt).map bs).map Value.string)
 blk:Blk wr b t cs
 ne:v.ownBlock≠some b
section
variable {W0 wr wz : World} {os : List (Option Tm)} {v : Value} {b : Nat} {t : TypeId} {cs : Array Value}
theorem Bp.below (h:Bp W0 wr os v b t cs) (j:Below wr.heap.size wr wz):Bp W0 wz os v b t cs :=
 ⟨h.bel.trans (j.mono h.bel.size),h.own.kept (ag j none) (by cases v.ownBlock <;> simp),h.blk.below j h.blk.lt,h.ne⟩
theorem Bp.txs (h:Bp W0 wr os v b t cs):Txs wr v (os.map txt):=uO h.own Z3
theorem GX {q:Array Oper} {rest:List Oper} {o:Oper} {a:Act} {Q:Exit->Act->World->Prop} (x:Option Tm) (n m:Nat) (L:os.length=n) (K:m=n+1) (C:o.guard=none) (s y:Operand)
  (N:o.op=.call { callee:=.builtin .append,args:=#[s,y],argTypes:=#[22,22] }) (j:Bp W0 wr os v b t cs) (hs:a.eval s=v) (P:a.eval y=.slice (some ⟨wr.heap.size,0,none⟩) 1 1) (U:n<=1000000)
  (h:∀A c w',Bp W0 w' (os++[x]) (.slice A m c) b t cs->(os++[x]).length=m->wpList prog q Q rest (a.put o.dst (.slice A m c)) w'):wpList prog q Q (o :: rest) a (wr.alloc (.cells #[.string (bs (txt x))] 9)):=by
 obtain ⟨R,D,r,u,z⟩:=info_parts IX;have O:=j.bel.size;have J:=j.blk.lt;subst L K;refine aB _ C s y 22 N W0.heap.size 9 R (.string ⟨#[]⟩) 1 16 underlying22 D r u z rfl Z2 v os.length _ hs (j.own.alloc _) _ (some ⟨wr.heap.size,0,none⟩) 1 1 [.string (bs (txt x))] P (eD (Blk.new _ _ _) rfl) Zd Ze Z0 (by simp;omega) ?_;intro v' w' p hgr G;have F:=fun i hi=>(j.own.lt i hi).1
 have I:Below W0.heap.size W0 w':=(j.bel.alloc j.bel.size _).grown hgr (by simp;omega) F;obtain ⟨A,c,rfl⟩:=iH p;refine h A c w' ⟨I,by simpa using p,Blk.grown (j.blk.alloc _) hgr (fun e=>j.ne e.symm),?_⟩ Z3;rcases G with h9 | h9
 ·rw [h9];exact j.ne
 ·rw [h9]
  intro e;have:=Y9 e;simp at this;omega
end
def rqS (user service alg:ByteArray):List ByteArray:=[⟨#[50]⟩,user,service,⟨#[112,117,98,108,105,99,107,101,121]⟩,⟨#[1]⟩,alg]
theorem tq {p:Option Tm} (j:bD o) (hp:bD p) (q:user.size<=1000000) (r:service.size<=1000000) (u:alg.size<=1000000):∀x∈Qn o user service alg p,bD x:=by
 intro x h;simp only [Qn,Yz,List.not_mem_nil,or_false] at h;rcases h with rfl | rfl | rfl | rfl | rfl | rfl | rfl | rfl
 ·exact j
 ·exact gH Z2
 ·exact gH Z0
 ·exact gH Z0
 ·exact gH Z2
 ·exact gH Z2
 ·exact gH Z0
 ·exact hp
theorem vM {α j:Type} (f:α->j) {l:List α} (h:i<l.length):(l.map f).take (i+1)=(l.map f).take i++[f l[i]]:=by
 rw [Yh (by rw [Yd];exact h),List.getElem_map]
section
variable {w : World}
theorem Bc {p:Option Tm} (R:bD o) (hp:bD p) (D:user.size<=1000000) (F:service.size<=1000000) (G:alg.size<=1000000) (w:World) :
  Calls prog 262 #[.string (bs (txt o)),.string user,.string service,.string alg,.string (bs (txt p))] w (Says (txt (O3 o user service alg p)) w):=by
 have Q:=hide (show [o]++(rqS user service alg).map aM++[p]=Qn o user service alg p from rfl);have HT:=hide (show O3 o user service alg p=gB ([o]++(rqS user service alg).map aM++[p]) from rfl);have V:=hide (tq R hp D F G)
 obtain ⟨W0,r⟩:∃W0,W0=(w.alloc (.cells #[.string (bs (txt o))] 9)).alloc (.cells #[.string ⟨#[50]⟩,.string user,.string service,.string ⟨#[112,117,98,108,105,99,107,101,121]⟩,.string ⟨#[1]⟩,.string alg] 9):=⟨_,rfl⟩
 have I:Bp w W0 [o] (.slice (some ⟨w.heap.size,0,none⟩) 1 1) (w.heap.size+1) 9 #[.string ⟨#[50]⟩,.string user,.string service,.string ⟨#[112,117,98,108,105,99,107,101,121]⟩,.string ⟨#[1]⟩,.string alg]:=by
  subst r;refine ⟨Z4,?_,?_,?_⟩
  ·exact IW ((Blk.new w 9 #[.string (bs (txt o))]).alloc _) (Y2 _) rfl Ze rfl
  ·simpa using Blk.new (w.alloc (.cells #[.string (bs (txt o))] 9)) 9 #[.string ⟨#[50]⟩,.string user,.string service,.string ⟨#[112,117,98,108,105,99,107,101,121]⟩,.string ⟨#[1]⟩,.string alg]
  ·intro e
   have:=Y9 e;simp at this
 have K:=hide I;have Hrq:=hide (show (rqS user service alg).length=6 from rfl);have X:=hide (Y4 D (Y4 F G));clear R hp D F G I;go_enter func262,ntmps262;go_wp2_with fail;rw [<-r];clear r
 go_loopw [11,13] (fun v P wr=>∃(i:Nat) (A:Option Addr) (c:Nat),P=.int .i64 i/\i<=6/\v=.slice A (1+i) c/\Bp w wr ([o]++((rqS user service alg).map aM).take i) (.slice A (1+i) c) (w.heap.size+1) 9 #[.string ⟨#[50]⟩,.string user,.string service,.string ⟨#[112,117,98,108,105,99,107,101,121]⟩,.string ⟨#[1]⟩,.string alg]) (fun _ P _=>6 - (intOf P).toNat)
 case atStart=>exact ⟨0,_,1,rfl,Z0,rfl,K.out⟩
 case round =>
  obtain ⟨i,A,c,rfl,hi,rfl,q⟩:=hrel;have j:=hide (show ([o]++((rqS user service alg).map aM).take i).length=1+i by rw [Ya,Yq,Yd,Hrq.out];simp;omega)
  by_cases h6:i<6
  ·have Y:(i:Int)<6:=by omega
   have z:=q.blk
   have u:wr.cell? ⟨w.heap.size+1,i,none⟩=some (.string ((rqS user service alg)[i]'XK)):=by
    obtain rfl | rfl | rfl | rfl | rfl | rfl:i=0\/i=1\/i=2\/i=3\/i=4\/i=5:=Z0
    ·exact z.cell 0
    ·exact z.cell 1
    ·exact z.cell 2
    ·exact z.cell 3
    ·exact z.cell 4
    ·exact z.cell 5
   have O:((rqS user service alg)[i]'XK).size<=1000000:=by
    obtain ⟨D,F,G⟩:=X.out;obtain rfl | rfl | rfl | rfl | rfl | rfl:i=0\/i=1\/i=2\/i=3\/i=4\/i=5:=Z0
    ·show (⟨#[50]⟩:ByteArray).size<=1000000
     decide
    ·exact D
    ·exact F
    ·show (⟨#[112,117,98,108,105,99,107,101,121]⟩:ByteArray).size<=1000000
     decide
    ·show (⟨#[1]⟩:ByteArray).size<=1000000
     decide
    ·exact G
   have C:=hide (vM aM (l:=rqS user service alg) (i:=i) XK);generalize (rqS user service alg)[i]'XK=s at u O C;have U:=hide (fun W=>Ri s W Z0);clear z
   go_wp2_with (first
    | (go_at_call 41;refine (U.out _).mono ?_;rintro e w1 ⟨rfl,N⟩;replace q:=q.below N)
    | (at_builtin;refine GX (aM s) (1+i) (1+(i+1)) j.out Z0 rfl (.tmp 26) (.tmp 32) rfl q rfl rfl Z0 ?_;intro A6 c6 w6 h _;rw [Yk,<- C.out] at h))
   exact ⟨⟨i+1,A6,c6,Zr,Z0,rfl,h⟩,Zh⟩
  ·obtain rfl:i=6:=by omega
   rw [Yp (by rw [Yd,Hrq.out];omega)] at j q;generalize (rqS user service alg).map aM=os at Q HT j q
   go_wp2_with (first
    | (at_builtin;refine GX p 7 8 j.out rfl rfl (.tmp 34) (.tmp 36) rfl q rfl rfl Z0 ?_;intro A6 c6 w6 h L)
    | (go_at_call 296;refine (LU h.txs (by rw [Q.out];exact V.out) (by rw [L];omega)).mono ?_;rintro e Z ⟨rfl,J⟩))
   go_ret;exact ⟨by rw [HT.out];simp,h.bel.trans (J.mono h.bel.size)⟩
theorem Lt (F:bD o) (u:user.size<=1000000) (z:service.size<=1000000) (A:alg.size<=1000000) (h:Int) (w:World) :
  Calls prog 195 #[.string (bs (txt o)),.string user,.string service,.string alg,.int .i64 h] w (Says (txt (lU o user service alg h)) w):=by
 have HK:=hide (Di h w);have I:=hide (fun W=>Gu h W);have J:=hide (fun W=>Bc F (sM (kv h)) u z A W);have G:=hide (fun W=>Lu alg.data.toList (kv h) (vW (tq F (sM (kv h)) u z A)) W ZP);rw [Pd] at G;clear F u z A;go_enter func195,ntmps195;go_wp2_with fail;refine HK.out.mono ?_;rintro e w1 ⟨rfl,q⟩;go_wp2_with fail;refine (I.out _).mono ?_;rintro e w2 ⟨rfl,C⟩;have j:=q.trans (C.mono q.size);go_wp2_with fail;refine (J.out _).mono ?_;rintro e w3 ⟨rfl,hb3⟩;have p:=j.trans (hb3.mono j.size);go_wp2_with fail;refine (G.out _).mono ?_;rintro e K ⟨rfl,D⟩;have r:=p.trans (D.mono p.size);go_wp2_with fail;go_ret;exact ⟨rfl,r⟩
theorem EQ (r:bD o) (j:user.size<=1000000) (p:service.size<=1000000) (q:alg.size<=1000000) (h:Int):bD (lU o user service alg h) :=
 EY (kv h) (vW (tq r (sM (kv h)) j p q))
theorem zz4cc (h_:p_:=by
 go_wp2_with fail;refine HO.out.mono ?_;rintro e w1 ⟨rfl,hb1⟩;go_wp2_with fail;go_ret
 exact ⟨rfl,hb1⟩):p_:=h_
theorem qD {os j p:Option Tm} (R:bD os) (Z:bD j) (hs:bD p) (L:user.size<=1000000) (N:service.size<=1000000) (O:alg.size<=1000000) (w:World) :
  Calls prog 115 #[.string (bs (txt os)),.string user,.string service,.string alg,.string (bs (txt j)),.string (bs (txt p))] w
   (fun e w'=>e=.returned (.string (pG (iM j=false) (p=none\/p≠lU os user service alg (fC j))))/\Below w.heap.size w w'):=by
 have HO:=hide (show Calls prog 116 #[.string (bs (txt j))] w (fun e w'=>e=.returned (.tuple #[.int .i64 (fC j),.bool (iM j)])/\Below w.heap.size w w') from qy Z w);generalize ((fC j:Nat):Int)=z at HO ⊢;have fs:=EQ R L N O z;have F:=hide (fun W=>Lt R L N O z W);have A:=hide (TU hs fs);have I:=hide (Fh (o:=p));clear fs R Z hs L N O
 obtain ⟨G,Y⟩:∃G,G=bs (txt p):=⟨_,rfl⟩
 rw [<-Y] at A I ⊢;generalize bs (txt j)=K at HO ⊢;generalize bs (txt os)=Q at F ⊢;clear Y;generalize lU os user service alg z=u at F A ⊢
 cases C:iM j with
 | false =>
  rw [C] at HO;rw [O0 rfl];clear C;go_enter func115,ntmps115;exact zz4cc
 | true =>
  rw [C] at HO;clear C;have J:¬ (true=false):=Z2
  obtain ⟨s2,q⟩:∃s2,s2=pG (true=false) (p=none\/p≠u):=⟨_,rfl⟩
  rw [<-q];have U:=hide (fun h=>q.trans (Ty J h));have J2:=hide (fun h=>q.trans (Tx J h));clear J q
  cases V:(G.toList == []) with
  | true =>
   rw [U.out (.inl (I.out.1 V))];go_enter func115,ntmps115;exact zz4cc
  | false =>
   have H3:=hide (show p≠none from fun h=>by
    have:=I.out.2 h;rw [V] at this
    cases this)
   go_enter func115,ntmps115;go_wp2_with fail;refine HO.out.mono ?_;rintro e w1 ⟨rfl,hb1⟩;go_wp2_with fail;refine (F.out _).mono ?_;rintro e w2 ⟨rfl,P⟩;have r:=hb1.trans (P.mono hb1.size)
   cases X:(G.toList == (bs (txt u)).toList) with
   | false =>
    have D:=hide (U.out (.inr (fun h=>by
     have:=A.out.2 h;rw [X] at this
     cases this)))
    go_wp2_with fail;go_ret;rw [D.out];exact ⟨rfl,r⟩
   | true =>
    have D:=hide (J2.out (fun h9=>by
     rcases h9 with h9 | h9
     ·exact H3.out h9
     ·exact h9 (A.out.1 X)))
    go_wp2_with fail;go_ret;rw [D.out];exact ⟨rfl,r⟩
end
section
variable {B b g p p0 N : Nat} {s : ByteArray} {T : List Tm} {S : Nat -> Prop} {w w0 w1 w2 : World} {c : UInt8} {s1 : List UInt8}
theorem zzb71 (h_:p_:=by
 obtain ⟨T',n,S',p',o,h1,h2,h3,h4,h5,h6,h7,h8⟩:=h
 exact ⟨T',n,S',p',o,h1,h2,h3,h4,hG.trans h5,h6,by omega,by omega⟩):p_:=h_
theorem Got.term {w':World} (h:Got B b g s p (p+1) T S w1 e w') (hG:Grown (SR b S) w (SR b S) w1) (hp:p+1<=s.size):qb B b g s p T S w e w':=by
 exact zzb71
theorem Got.from_ {w':World} (h:Got B b g s p0 j T S w1 e w') (hG:Grown (SR b S) w (SR b S) w1) (hp:q<=j):Got B b g s p0 q T S w e w':=by
 exact zzb71
theorem gM (h:Rd B b g s p T S w) (hd:s.data.toList.drop p=c :: s.data.toList.drop (p+1)):Calls prog 166 #[.pointer (some ⟨b,0,none⟩)] w (fun e w'=>e=.returned (.tuple #[.int .u8 c.toNat,.bool true])/\p+1<=s.size/\Rd B b g s (p+1) T S w'/\Grown (SR b S) w (SR b S) w'):=by
 refine (xS h).mono ?_;rintro e w' (⟨rfl,u,r,q⟩ | ⟨c2,j,o,rfl,r,q⟩)
 ·rw [List.drop_of_length_le ZP] at hd
  cases hd
 ·rw [hd] at j
  injection j with e1 _;exact ⟨by rw [e1],o,r,q⟩
theorem Nc (h:Rd B b g s p T S w) (o:p=s.size) :
  Calls prog 96 #[.pointer (some ⟨b,0,none⟩)] w (qb B b g s p T S w):=by
 have HB:=hide (fun (W:World) (hb:Below w.heap.size w W)=>xS (h.below hb));clear h;go_enter func96,ntmps96;go_wp2_with fail;have j:=bz (w:=w) (.cells #[.pointer (some ⟨b,0,none⟩)] 176);refine (HB.out _ j).mono ?_;rintro e w1 (⟨rfl,o,u,q⟩ | ⟨c,hd,v,rfl,u,q⟩)
 ·go_wp2_with fail
  go_ret
  exact ⟨T,-1,S,p,none,rfl,dB _,gN (by
   rw [List.drop_of_length_le ZP];intro t r A e;have:=Ye List.length e;have z:1<=(enc t).length:=List.length_pos_iff.2 (qc t);simp at this
   omega),u,(Grown.of_below j).trans q,Yl _,Z0,Y2 _⟩
 ·omega
theorem zzcbe (h_:p_:=by
 go_wp2_with fail;refine HW.out.mono ?_;intro e w2 hg;have hF:=hide (hg.term hG0 hps);obtain ⟨T2,m,S2,p2,o2,rfl,_⟩:=hg;go_wp2_with fail;go_ret
 exact hF.out):p_:=h_
theorem MI (F:fe B b g s N) (h:Rd B b g s p T S w) (P:s.size - p<N+1) (hd:s.data.toList.drop p=c :: s.data.toList.drop (p+1)) (J:c.toNat=244) :
  Calls prog 96 #[.pointer (some ⟨b,0,none⟩)] w (qb B b g s p T S w):=by
 have HB:=hide (fun (W:World) (hb:Below w.heap.size w W)=>gM (h.below hb) hd);have z:=hide F;have u:=h.sr_lt;have L:=h.few;have q:¬ SR b S w.heap.size:=fun h9=>by have:=u _ h9;omega
 clear h F u;rw [J] at HB;go_enter func96,ntmps96;go_wp2_with fail;have v:=Blk.new w 176 #[.pointer (some ⟨b,0,none⟩)];have o:=bz (w:=w) (.cells #[.pointer (some ⟨b,0,none⟩)] 176);refine (HB.out _ o).mono ?_;rintro e w1 ⟨rfl,hps,C,A⟩;have j:=A.outs.blk v q;have hG0:=(Grown.of_below (S:=SR b S) o).trans A;have D:w1.cell? ⟨w.heap.size,0,none⟩=some (.pointer (some ⟨b,0,none⟩)):=j.cell 0
 obtain ⟨G,r⟩:∃G,G=w.heap.size:=⟨_,rfl⟩
 rw [<-r] at j D q ⊢;clear v o A HB r;have K:=hide hd;have O:=C.hs;have I:=C.len;clear hd;have HW:=hide (Jw z.out C Z0 j q K.out J U1 Z0 L);clear j;exact zzcbe
theorem Nt (F:fe B b g s N) (h:Rd B b g s p T S w) (P:s.size - p<N+1) (hd:s.data.toList.drop p=c :: s.data.toList.drop (p+1)) (J:c.toNat=247) :
  Calls prog 96 #[.pointer (some ⟨b,0,none⟩)] w (qb B b g s p T S w):=by
 have HB:=hide (fun (W:World) (hb:Below w.heap.size w W)=>gM (h.below hb) hd);have z:=hide F;have u:=h.sr_lt;have L:=h.few;have q:¬ SR b S w.heap.size:=fun h9=>by have:=u _ h9;omega
 clear h F u;rw [J] at HB;go_enter func96,ntmps96;go_wp2_with fail;have v:=Blk.new w 176 #[.pointer (some ⟨b,0,none⟩)];have o:=bz (w:=w) (.cells #[.pointer (some ⟨b,0,none⟩)] 176);refine (HB.out _ o).mono ?_;rintro e w1 ⟨rfl,hps,C,A⟩;have j:=A.outs.blk v q;have hG0:=(Grown.of_below (S:=SR b S) o).trans A;have D:w1.cell? ⟨w.heap.size,0,none⟩=some (.pointer (some ⟨b,0,none⟩)):=j.cell 0
 obtain ⟨G,r⟩:∃G,G=w.heap.size:=⟨_,rfl⟩
 rw [<-r] at j D q ⊢;clear v o A HB r;have K:=hide hd;have O:=C.hs;have I:=C.len;clear hd;have HW:=hide (JL z.out C Z0 j q K.out J VJ Z0 L);clear j;exact zzcbe
theorem Ni (F:fe B b g s N) (h:Rd B b g s p T S w) (P:s.size - p<N+1) (hd:s.data.toList.drop p=c :: s.data.toList.drop (p+1)) (J:c.toNat=245) :
  Calls prog 96 #[.pointer (some ⟨b,0,none⟩)] w (qb B b g s p T S w):=by
 have HB:=hide (fun (W:World) (hb:Below w.heap.size w W)=>gM (h.below hb) hd);have z:=hide F;have r:=h.sr_lt;have L:=h.few;have v:¬ SR b S w.heap.size:=fun h9=>by have:=r _ h9;omega
 clear h F r;rw [J] at HB;go_enter func96,ntmps96;go_wp2_with fail;have u:=Blk.new w 176 #[.pointer (some ⟨b,0,none⟩)];have j:=bz (w:=w) (.cells #[.pointer (some ⟨b,0,none⟩)] 176);refine (HB.out _ j).mono ?_;rintro e w1 ⟨rfl,hps,C,A⟩;have o:=A.outs.blk u v;have hG0:=(Grown.of_below (S:=SR b S) j).trans A;have D:w1.cell? ⟨w.heap.size,0,none⟩=some (.pointer (some ⟨b,0,none⟩)):=o.cell 0
 obtain ⟨G,q⟩:∃G,G=w.heap.size:=⟨_,rfl⟩
 rw [<-q] at o D v ⊢;clear u j A HB q;have K:=hide hd;have O:=C.hs;have I:=C.len;clear hd;have HW:=hide (LH z.out C Z0 K.out J L);clear o;exact zzcbe
theorem zz685 (h_:p_:=by
 obtain ⟨T2,m,S2,p2,o2,rfl,_⟩:=hg;go_wp2_with fail;go_ret
 exact hF.out):p_:=h_
theorem PM (IH:fe B b g s N) (h:Rd B b g s p T S w) (hN:s.size - p<N+1) (hd:s.data.toList.drop p=c :: s.data.toList.drop (p+1)) (Y:c.toNat=246) :
  Calls prog 96 #[.pointer (some ⟨b,0,none⟩)] w (qb B b g s p T S w):=by
 have HB:=hide (fun (W:World) (hb:Below w.heap.size w W)=>gM (h.below hb) hd);have P:=hide IH;have G:=h.sr_lt;have hK:=h.few;have v:¬ SR b S w.heap.size:=fun h9=>by have:=G _ h9;omega
 clear h IH G;rw [Y] at HB;go_enter func96,ntmps96;go_wp2_with fail;have I:=Blk.new w 176 #[.pointer (some ⟨b,0,none⟩)];have z:=bz (w:=w) (.cells #[.pointer (some ⟨b,0,none⟩)] 176);refine (HB.out _ z).mono ?_;rintro e w1 ⟨rfl,X,V,Q⟩;have o:=Q.outs.blk I v;have C:=(Grown.of_below (S:=SR b S) z).trans Q;have J:w1.cell? ⟨w.heap.size,0,none⟩=some (.pointer (some ⟨b,0,none⟩)):=o.cell 0
 obtain ⟨O,F⟩:∃O,O=w.heap.size:=⟨_,rfl⟩
 rw [<-F] at o J v ⊢;clear I z Q HB F;have Hd:=hide hd;have am:=V.hs;have aa:=V.len;clear hd;have HW:=hide (xA V);go_wp2_with fail;refine HW.out.mono ?_;rintro e w2 (⟨p1,rfl,af,r,j,ad⟩ | ⟨n,hn,h5,rfl,r,j⟩)
 ·have u:=j.outs.blk o v
  clear o;go_wp2_with fail;go_ret;exact ⟨T,-1,S,_,none,rfl,dB _,gN (by rw [Hd.out];exact no6 Y Z0),r.below (bz _),(C.trans j).trans (Grown.of_below (bz _)),Yl _,Z0,Z0⟩
 ·have u:=j.outs.blk o v
  have U:Hed 6 0 0 (bs ((s.data.toList.drop (p+1+4)).take n)) 2 (s.data.toList.drop (p+1)) (s.data.toList.drop (p+1+4+n)):=by
   have:=Vf (s1:=s.data.toList.drop (p+1)) Z0 Z0;rw [Yr,Yr,<- hn] at this;rw [show p+1+4+n=p+1+(4+n) by omega];exact this
  have K:(bs ((s.data.toList.drop (p+1+4)).take n)).size<=1000000:=by
   show ((s.data.toList.drop (p+1+4)).take n).length<=1000000;rw [Yq,Yu,aC];omega
  clear hn;generalize bs ((s.data.toList.drop (p+1+4)).take n)=x at U K ⊢;have D:=r.below (bz (.cells #[.string x] 9));have A:=u.below (bz (.cells #[.string x] 9)) u.lt;have L:=Blk.new w2 9 #[.string x];have Z:¬ SR b S w2.heap.size:=fun h9=>by have:=r.sr_lt _ h9;omega
  have HV:=hide (I8 P.out D Z0 A v K L Z Hd.out Y U Z0 hK);have ab:w2.cell? ⟨O,0,none⟩=some (.pointer (some ⟨b,0,none⟩)):=u.cell 0;have ac:(w2.alloc (.cells #[.string x] 9)).cell? ⟨O,0,none⟩=some (.pointer (some ⟨b,0,none⟩)):=A.cell 0;have R:=(C.trans j).trans (Grown.of_below (bz (.cells #[.string x] 9)));clear o u A L D r U j J;go_wp2_with fail;refine HV.out.mono ?_;intro e w3 hg;have hF:=hide ((hg.from_ (q:=p+1) (Grown.refl _ _) Z0).term R X);exact zz685
theorem Ph (IH:fe B b g s N) (h:Rd B b g s p T S w) (hN:s.size - p<N+1) (hd:s.data.toList.drop p=c :: s.data.toList.drop (p+1)) (Z:c.toNat=248) :
  Calls prog 96 #[.pointer (some ⟨b,0,none⟩)] w (qb B b g s p T S w):=by
 have HB:=hide (fun (W:World) (hb:Below w.heap.size w W)=>gM (h.below hb) hd);have Q:=hide IH;have J:=h.sr_lt;have hK:=h.few;have v:¬ SR b S w.heap.size:=fun h9=>by have:=J _ h9;omega
 clear h IH J;rw [Z] at HB;go_enter func96,ntmps96;go_wp2_with fail;have K:=Blk.new w 176 #[.pointer (some ⟨b,0,none⟩)];have A:=bz (w:=w) (.cells #[.pointer (some ⟨b,0,none⟩)] 176);refine (HB.out _ A).mono ?_;rintro e w1 ⟨rfl,Y,X,R⟩;have o:=R.outs.blk K v;have D:=(Grown.of_below (S:=SR b S) A).trans R;have L:w1.cell? ⟨w.heap.size,0,none⟩=some (.pointer (some ⟨b,0,none⟩)):=o.cell 0
 obtain ⟨P,G⟩:∃P,P=w.heap.size:=⟨_,rfl⟩
 rw [<-G] at o L v ⊢;clear K A R HB G;have Hd:=hide hd;have an:=X.hs;have ab:=X.len;clear hd;have HW:=hide (xS X);go_wp2_with fail;refine HW.out.mono ?_;rintro e w2 (⟨rfl,am,r,j⟩ | ⟨c2,I,ac,rfl,r,j⟩)
 ·have u:=j.outs.blk o v
  clear o;go_wp2_with fail;go_ret;exact ⟨T,-1,S,_,none,rfl,dB _,gN (by rw [Hd.out];exact no8 Z (List.drop_of_length_le ZP)),r.below (bz _),(D.trans j).trans (Grown.of_below (bz _)),Yl _,Z0,Z0⟩
 ·have u:=j.outs.blk o v
  have V:Hed 8 0 c2.toNat eB 3 (s.data.toList.drop (p+1)) (s.data.toList.drop (p+1+1)):=by
   rw [I];exact Vg
  have z:=c2.toNat_lt;clear I;generalize c2.toNat=x at V z ⊢;have F:=r.below (bz (.cells #[.int .u8 (x:Nat)] 5));have C:=u.below (bz (.cells #[.int .u8 (x:Nat)] 5)) u.lt;have O:=Blk.new w2 5 #[.int .u8 (x:Nat)];have aa:¬ SR b S w2.heap.size:=fun h9=>by have:=r.sr_lt _ h9;omega
  have HV:=hide (J5 Q.out F Z0 C v z O aa Hd.out Z V Z0 hK);have ad:w2.cell? ⟨P,0,none⟩=some (.pointer (some ⟨b,0,none⟩)):=u.cell 0;have af:(w2.alloc (.cells #[.int .u8 (x:Nat)] 5)).cell? ⟨P,0,none⟩=some (.pointer (some ⟨b,0,none⟩)):=C.cell 0;have U:=(D.trans j).trans (Grown.of_below (bz (.cells #[.int .u8 (x:Nat)] 5)));clear o u C O F r V j L;go_wp2_with fail;refine HV.out.mono ?_;intro e w3 hg;have hF:=hide ((hg.from_ (q:=p+1) (Grown.refl _ _) Z0).term U Y);exact zz685
theorem Ns (IH:fe B b g s N) (h:Rd B b g s p T S w) (hN:s.size - p<N+1) (hd:s.data.toList.drop p=c :: s.data.toList.drop (p+1)) (Y:c.toNat=249) :
  Calls prog 96 #[.pointer (some ⟨b,0,none⟩)] w (qb B b g s p T S w):=by
 have HB:=hide (fun (W:World) (hb:Below w.heap.size w W)=>gM (h.below hb) hd);have P:=hide IH;have G:=h.sr_lt;have hK:=h.few;have v:¬ SR b S w.heap.size:=fun h9=>by have:=G _ h9;omega
 clear h IH G;rw [Y] at HB;go_enter func96,ntmps96;go_wp2_with fail;have I:=Blk.new w 176 #[.pointer (some ⟨b,0,none⟩)];have z:=bz (w:=w) (.cells #[.pointer (some ⟨b,0,none⟩)] 176);refine (HB.out _ z).mono ?_;rintro e w1 ⟨rfl,X,V,Q⟩;have o:=Q.outs.blk I v;have C:=(Grown.of_below (S:=SR b S) z).trans Q;have J:w1.cell? ⟨w.heap.size,0,none⟩=some (.pointer (some ⟨b,0,none⟩)):=o.cell 0
 obtain ⟨O,F⟩:∃O,O=w.heap.size:=⟨_,rfl⟩
 rw [<-F] at o J v ⊢;clear I z Q HB F;have Hd:=hide hd;have af:=V.hs;have aa:=V.len;clear hd;have HW:=hide (qY V);go_wp2_with fail;refine HW.out.mono ?_;rintro e w2 (⟨rfl,ad,r,j⟩ | ⟨h4,rfl,r,j⟩)
 ·have u:=j.outs.blk o v
  clear o;go_wp2_with fail;go_ret;exact ⟨T,-1,S,_,none,rfl,dB _,gN (by rw [Hd.out];exact no9 Y Z0),r.below (bz _),(C.trans j).trans (Grown.of_below (bz _)),Yl _,Z0,Z0⟩
 ·have u:=j.outs.blk o v
  have U:Hed 9 0 (n4 (s.data.toList.drop (p+1))) eB 2 (s.data.toList.drop (p+1)) (s.data.toList.drop (p+1+4)):=by
   have:=Vd (s1:=s.data.toList.drop (p+1)) Z0;rw [Yr] at this;exact this
  have K:=jG (s.data.toList.drop (p+1));generalize n4 (s.data.toList.drop (p+1))=x at U K ⊢;have D:=r.below (bz (.cells #[.int .i64 (x:Nat)] 3));have A:=u.below (bz (.cells #[.int .i64 (x:Nat)] 3)) u.lt;have L:=Blk.new w2 3 #[.int .i64 (x:Nat)];have Z:¬ SR b S w2.heap.size:=fun h9=>by have:=r.sr_lt _ h9;omega
  have HV:=hide (JG P.out D Z0 A v K L Z Hd.out Y U Z0 hK);have ab:w2.cell? ⟨O,0,none⟩=some (.pointer (some ⟨b,0,none⟩)):=u.cell 0;have ac:(w2.alloc (.cells #[.int .i64 (x:Nat)] 3)).cell? ⟨O,0,none⟩=some (.pointer (some ⟨b,0,none⟩)):=A.cell 0;have R:=(C.trans j).trans (Grown.of_below (bz (.cells #[.int .i64 (x:Nat)] 3)));clear o u A L D r U j J;go_wp2_with fail;refine HV.out.mono ?_;intro e w3 hg;have hF:=hide ((hg.from_ (q:=p+1) (Grown.refl _ _) Z0).term R X);exact zz685
theorem NN (IH:fe B b g s N) (h:Rd B b g s p T S w) (hN:s.size - p<N+1) (hd:s.data.toList.drop p=c :: s.data.toList.drop (p+1)) (R:c.toNat=250) :
  Calls prog 96 #[.pointer (some ⟨b,0,none⟩)] w (qb B b g s p T S w):=by
 have HB:=hide (fun (W:World) (hb:Below w.heap.size w W)=>gM (h.below hb) hd);have aa:=hide IH;have U:=h.sr_lt;have hK:=h.few;have I:¬ SR b S w.heap.size:=fun h9=>by have:=U _ h9;omega
 clear h IH U;rw [R] at HB;go_enter func96,ntmps96;go_wp2_with fail;have V:=Blk.new w 176 #[.pointer (some ⟨b,0,none⟩)];have G:=bz (w:=w) (.cells #[.pointer (some ⟨b,0,none⟩)] 176);refine (HB.out _ G).mono ?_;rintro e w1 ⟨rfl,af,L,hG⟩;have r:=hG.outs.blk V I;have C:=(Grown.of_below (S:=SR b S) G).trans hG;have X:w1.cell? ⟨w.heap.size,0,none⟩=some (.pointer (some ⟨b,0,none⟩)):=r.cell 0
 obtain ⟨bx,O⟩:∃bx,bx=w.heap.size:=⟨_,rfl⟩
 rw [<-O] at r X I ⊢;clear V G hG HB O;have Y:=hide hd;have ap:=L.hs;have an:=L.len;clear hd
 by_cases h4:s.size<p+1+4
 ·have K:=hide (uy L 32 h4)
  clear r;go_wp2_with fail;refine K.out.mono ?_;rintro e w2 ⟨J,rfl,j,o,D⟩;go_wp2_with fail;go_ret;exact ⟨T,-1,S,J,none,rfl,dB _,gN (by rw [Y.out];exact VF R Z0),j,C.trans o,Yl _,Z0,Z0⟩
 ·obtain ⟨m,P⟩:∃m,m=n4 (s.data.toList.drop (p+1)):=⟨_,rfl⟩
  have hH:Hed 10 0 0 eB m (s.data.toList.drop (p+1)) (s.data.toList.drop (p+1+4)):=by
   have:=TD (s1:=s.data.toList.drop (p+1)) Z0;rw [Yr,<- P] at this;exact this
  by_cases ac:(32:Int)<(m:Int)
  ·have K:=hide (uk L 32 Z0 P ac)
   clear r P;go_wp2_with fail;refine K.out.mono ?_;rintro e w2 ⟨J,rfl,j,o,D⟩;go_wp2_with fail;go_ret;exact ⟨T,-1,S,J,none,rfl,dB _,gN (by rw [Y.out];exact hH.nohd R (fun hh=>by simp only [hd] at hh;omega)),j,C.trans o,Yl _,Z0,Z0⟩
  ·have K:=hide (ul aa.out L Z0 32 Z0 P Z0 Z0)
   have HH:=hide hH;clear hH P;go_wp2_with fail;refine K.out.mono ?_;rintro e w2 (⟨T1,S1,J,rfl,ab,j,o,z,hl,D⟩ | ⟨T1,S1,J,l,A,cz,rfl,hg,ad,he,hI,j,o,z,hl,D⟩)
   ·clear r
    go_wp2_with fail;go_ret;exact ⟨T1,-1,S1,J,none,rfl,dB _,si Y.out R HH.out ab,j,C.trans o,z,Z0,Z0⟩
   ·have ao:w2.cell? ⟨bx,0,none⟩=some (.pointer (some ⟨b,0,none⟩)):=(o.outs.blk r I).cell 0
    have am:=kw j;obtain ⟨ns,F,v⟩:=hI.ids_;have u:=v.args;have Q:=v.1;have HL:=hide (zB j.use F (by simp at Q;omega));rw [u] at HL;have HF:=hide (fun (e:Ending) (w3:World) Z=>oD (e:=e) (w2:=w3) (w:=w1) (p:=p+1+4) Y.out R Z0 HH.out hg ad he j o z hl D (DT l Z0) Z Z0 hK);clear r j hI F v u Q X o;go_wp2_with fail;refine HL.out.mono ?_;intro e w3 Z;have hF:=hide (((HF.out e w3 Z).from_ (q:=p+1) (Grown.refl _ _) Z0).term C af);obtain ⟨T2,m2,S2,rfl,_⟩:=Z;go_wp2_with fail;go_ret;exact hF.out
theorem Nv (D:fe B b g s N) (h:Rd B b g s p T S w) (P:s.size - p<N+1) (hd:s.data.toList.drop p=c :: s.data.toList.drop (p+1)) (I:c.toNat=241) :
  Calls prog 96 #[.pointer (some ⟨b,0,none⟩)] w (qb B b g s p T S w):=by
 have HB:=hide (fun (W:World) (hb:Below w.heap.size w W)=>gM (h.below hb) hd);have J:=hide D;have r:=h.sr_lt;have L:=h.few;have v:¬ SR b S w.heap.size:=fun h9=>by have:=r _ h9;omega
 clear h D r;rw [I] at HB;go_enter func96,ntmps96;go_wp2_with fail;have u:=Blk.new w 176 #[.pointer (some ⟨b,0,none⟩)];have j:=bz (w:=w) (.cells #[.pointer (some ⟨b,0,none⟩)] 176);refine (HB.out _ j).mono ?_;rintro e w1 ⟨rfl,hps,A,z⟩;have o:=z.outs.blk u v;have hG0:=(Grown.of_below (S:=SR b S) j).trans z;have C:w1.cell? ⟨w.heap.size,0,none⟩=some (.pointer (some ⟨b,0,none⟩)):=o.cell 0
 obtain ⟨F,q⟩:∃F,F=w.heap.size:=⟨_,rfl⟩
 rw [<-q] at o C v ⊢;clear u j z HB q;have K:=hide hd;have O:=A.hs;have G:=A.len;clear hd;have HW:=hide (Kb A K.out I L);clear o;exact zzcbe
theorem M7 (D:fe B b g s N) (h:Rd B b g s p T S w) (P:s.size - p<N+1) (hd:s.data.toList.drop p=c :: s.data.toList.drop (p+1)) (I:c.toNat=242) :
  Calls prog 96 #[.pointer (some ⟨b,0,none⟩)] w (qb B b g s p T S w):=by
 have HB:=hide (fun (W:World) (hb:Below w.heap.size w W)=>gM (h.below hb) hd);have J:=hide D;have r:=h.sr_lt;have L:=h.few;have v:¬ SR b S w.heap.size:=fun h9=>by have:=r _ h9;omega
 clear h D r;rw [I] at HB;go_enter func96,ntmps96;go_wp2_with fail;have u:=Blk.new w 176 #[.pointer (some ⟨b,0,none⟩)];have j:=bz (w:=w) (.cells #[.pointer (some ⟨b,0,none⟩)] 176);refine (HB.out _ j).mono ?_;rintro e w1 ⟨rfl,hps,A,z⟩;have o:=z.outs.blk u v;have hG0:=(Grown.of_below (S:=SR b S) j).trans z;have C:w1.cell? ⟨w.heap.size,0,none⟩=some (.pointer (some ⟨b,0,none⟩)):=o.cell 0
 obtain ⟨F,q⟩:∃F,F=w.heap.size:=⟨_,rfl⟩
 rw [<-q] at o C v ⊢;clear u j z HB q;have K:=hide hd;have O:=A.hs;have G:=A.len;clear hd;have HW:=hide (Fv A K.out I L);clear o;exact zzcbe
theorem MG (D:fe B b g s N) (h:Rd B b g s p T S w) (P:s.size - p<N+1) (hd:s.data.toList.drop p=c :: s.data.toList.drop (p+1)) (I:c.toNat=243) :
  Calls prog 96 #[.pointer (some ⟨b,0,none⟩)] w (qb B b g s p T S w):=by
 have HB:=hide (fun (W:World) (hb:Below w.heap.size w W)=>gM (h.below hb) hd);have J:=hide D;have r:=h.sr_lt;have L:=h.few;have v:¬ SR b S w.heap.size:=fun h9=>by have:=r _ h9;omega
 clear h D r;rw [I] at HB;go_enter func96,ntmps96;go_wp2_with fail;have u:=Blk.new w 176 #[.pointer (some ⟨b,0,none⟩)];have j:=bz (w:=w) (.cells #[.pointer (some ⟨b,0,none⟩)] 176);refine (HB.out _ j).mono ?_;rintro e w1 ⟨rfl,hps,A,z⟩;have o:=z.outs.blk u v;have hG0:=(Grown.of_below (S:=SR b S) j).trans z;have C:w1.cell? ⟨w.heap.size,0,none⟩=some (.pointer (some ⟨b,0,none⟩)):=o.cell 0
 obtain ⟨F,q⟩:∃F,F=w.heap.size:=⟨_,rfl⟩
 rw [<-q] at o C v ⊢;clear u j z HB q;have K:=hide hd;have O:=A.hs;have G:=A.len;clear hd;have HW:=hide (PD A K.out I L);clear o;exact zzcbe
end
theorem NS {x:Int} (h:-9223372036854775808<=x) (j:x<9223372036854775808):wrap64 x=x:=by
 unfold wrap64;omega
theorem Vr (h:q<256):wrap64 (q:Int)=q:=NS Z0 Z0
theorem VR (h:q<256):wrap64 ((q:Int) - 240)=(q:Int) - 240:=NS Z0 Z0
section
variable {B b g p p0 N : Nat} {s : ByteArray} {T : List Tm} {S : Nat -> Prop} {w w0 w1 w2 : World} {c : UInt8} {s1 : List UInt8}
theorem EI (J:fe B b g s N) (h:Rd B b g s p T S w) (hN:s.size - p<N+1) (hd:s.data.toList.drop p=c :: s.data.toList.drop (p+1)) (G:q=c.toNat) (O:¬ q=241) (P:¬ q=242) (Q:¬ q=243) (R:¬ q=244) (U:¬ q=245) (V:¬ q=246) (X:¬ q=247) (Y:¬ q=248) (Z:¬ q=249) (aa:¬ q=250) :
  Calls prog 96 #[.pointer (some ⟨b,0,none⟩)] w (qb B b g s p T S w):=by
 have HB:=hide (fun (W:World) (hb:Below w.heap.size w W)=>gM (h.below hb) hd);have ab:=hide J;have z:=h.sr_lt;have hK:=h.few;have C:¬ SR b S w.heap.size:=fun h9=>by have:=z _ h9;omega
 clear h J z;have v:=c.toNat_lt;rw [<-G] at HB;go_enter func96,ntmps96;go_wp2_with fail;have A:=Blk.new w 176 #[.pointer (some ⟨b,0,none⟩)];have o:=bz (w:=w) (.cells #[.pointer (some ⟨b,0,none⟩)] 176);refine (HB.out _ o).mono ?_;rintro e w1 ⟨rfl,hps,F,D⟩;have r:=D.outs.blk A C;have hG0:=(Grown.of_below (S:=SR b S) o).trans D;have I:w1.cell? ⟨w.heap.size,0,none⟩=some (.pointer (some ⟨b,0,none⟩)):=r.cell 0
 obtain ⟨K,u⟩:∃K,K=w.heap.size:=⟨_,rfl⟩
 rw [<-u] at r I C ⊢;clear A o D HB u;have Hd:=hide hd;have ad:=F.hs;have L:=F.len;clear hd;have f4:((q:Int) - 240 == 4)=false:=ZQ;have f5:((q:Int) - 240 == 5)=false:=ZQ;have f6:((q:Int) - 240 == 6)=false:=ZQ;have f7:((q:Int) - 240 == 7)=false:=ZQ;have f8:((q:Int) - 240 == 8)=false:=ZQ;have f9:((q:Int) - 240 == 9)=false:=ZQ;have ac:((q:Int) - 240 == 10)=false:=ZQ;have HW:=hide (Gm F ((q:Int) - 240) Z0 Z0 Z0 (by rw [Hd.out];exact PY Z0));have j:q<256:=by rw [G];exact v
 have wq:wrap64 (q:Int)=q:=Vr j;have wr:wrap64 ((q:Int) - 240)=(q:Int) - 240:=VR j;clear r G v;go_upto_region 5 with fail;exact zzcbe
theorem LW (j:fe B b g s N) (h:Rd B b g s p T S w) (o:s.size - p<N+1) :
  Calls prog 96 #[.pointer (some ⟨b,0,none⟩)] w (qb B b g s p T S w):=by
 by_cases I:p<s.size
 ·have hd:=fF (s:=s.data.toList) (p:=p) I
  generalize s.data.toList[p]'I=c at hd
  by_cases q:c.toNat=241
  ·exact Nv j h o hd q
  by_cases r:c.toNat=242
  ·exact M7 j h o hd r
  by_cases u:c.toNat=243
  ·exact MG j h o hd u
  by_cases v:c.toNat=244
  ·exact MI j h o hd v
  by_cases z:c.toNat=245
  ·exact Ni j h o hd z
  by_cases A:c.toNat=246
  ·exact PM j h o hd A
  by_cases C:c.toNat=247
  ·exact Nt j h o hd C
  by_cases D:c.toNat=248
  ·exact Ph j h o hd D
  by_cases F:c.toNat=249
  ·exact Ns j h o hd F
  by_cases G:c.toNat=250
  ·exact NN j h o hd G
  exact EI j h o hd rfl q r u v z A C D F G
 ·exact Nc h (by have:=h.hp;omega)
theorem OI (b g B:Nat) (s:ByteArray):∀N,fe B b g s N:=by
 intro N
 induction N with
 | zero=>exact fun p T S w h=>absurd h Z0
 | succ N ih=>exact fun p T S w j h=>LW ih h j
end
def We (B:Nat) (w:World) (g:Nat) (s:ByteArray) (T:List Tm) (S:Nat->Prop) (e:Ending) (w':World):Prop :=
 ∃T' S' n k o,e=.returned (.tuple #[.int .i64 n,.int .i64 k])/\Idn T' o n/\((∃t,o=some t/\good t/\s.data.toList=enc t/\k=0)\/(o=none/\k=3/\∀t,good t->s.data.toList≠enc t))/\Ar B w' g T' S'/\Grown S w S' w'/\T <+: T'/\T'.length<=T.length+2*s.size
theorem BQ {s:ByteArray} (h:uu s 0 o j) (hp:j<=s.size):(∃t,o=some t/\j=s.size/\good t/\s.data.toList=enc t)\/((o=none\/j≠s.size)/\∀t,good t->s.data.toList≠enc t):=by
 rcases h with ⟨rfl,h⟩ | ⟨t,rfl,q,p⟩
 ·exact .inr ⟨.inl rfl,fun t z e=>h t [] z (by rw [List.drop_zero,e,List.append_nil])⟩
 ·rw [List.drop_zero] at p
  by_cases hs:j=s.size
  ·refine .inl ⟨t,rfl,hs,q,?_⟩
   rw [p,List.drop_of_length_le ZP,List.append_nil]
  ·refine .inr ⟨.inr hs,fun u A e=>?_⟩
   have v:enc t++s.data.toList.drop j=enc u++[]:=by rw [<-p,e,List.append_nil]
   have r:=Ye List.length (mX t u _ _ q A v).2;rw [Yu,aC] at r;simp at r;omega
section
variable {B g : Nat} {s : ByteArray} {T : List Tm} {S : Nat -> Prop} {w : World}
theorem xJ (h:Use B w g T S) (hs:s.size<=131072) (Z:T.length<=800000000):Calls prog 50 #[.pointer (some ⟨g,0,none⟩),.string s] w (We B w g s T S):=by
 have q:Rd B w.heap.size g s 0 T S (w.alloc (.cells #[.pointer (some ⟨g,0,none⟩),.string s,.int .i64 0] 178)) :=
  ⟨h.below (bz _),Blk.new _ _ _,fun h9=>by have:=h.ar.sL _ h9;omega,h.base,Yb _,hs,Z0⟩
 have HT:=hide (OI w.heap.size g B s (s.size+1) 0 T S _ Z0 q);have U:=h.ar.sL;have G:¬ (131072:Int)<s.size:=Z0;clear h q;go_enter func50,ntmps50;go_wp2_with fail;refine HT.out.mono ?_;rintro e w1 ⟨F,n,C,P,o,rfl,v,L,q,O,p,hl,G⟩;have hw:=BQ L q.hp;have hp:=q.hp;have V:w1.cell? ⟨w.heap.size,2,none⟩=some (.int .i64 P):=Blk.cell q.bk 2
 have u:Grown S w C w1:=by
  have r:=(Grown.of_below (S:=SR w.heap.size S) (bz (w:=w) (.cells #[.pointer (some ⟨g,0,none⟩),.string s,.int .i64 0] 178))).trans O;have J:=q.nb;refine ⟨r.os,r.tape,r.output,r.size,fun i hi X=>r.block i hi (fun j=>?_),fun i hi=>?_,fun i hi=>?_⟩
  ·rcases j with j | j
   ·exact X j
   ·omega
  ·rcases r.sub i (.inl hi) with j | j
   ·exact j
   ·have:=U i hi;omega
  ·rcases r.new i (.inl hi) with j | j
   ·rcases j with j | j
    ·exact .inl j
    ·exact absurd (j ▸ hi) J
   ·exact .inr j
 have N:=q.use.ar;have D:=hide N;clear q O HT N;rcases hw with ⟨t,rfl,rfl,Y,he⟩ | ⟨K,A⟩
 ·have I:¬ n=-1:=fun h9=>by have:=v.none_iff.1 h9;cases this
  go_wp2_with fail;go_ret2;exact ⟨F,C,n,0,some t,rfl,v,.inl ⟨t,rfl,Y,he,rfl⟩,D.out,u,p,Z0⟩
 ·have z:n=-1\/¬ n=-1/\¬ (P:Int)=s.size:=by
   by_cases h9:n=-1
   ·exact .inl h9
   ·refine .inr ⟨h9,fun Q=>?_⟩
    rcases K with rfl | R
    ·exact h9 (v.2 rfl)
    ·omega
  rcases z with rfl | ⟨I,z⟩
  ·go_wp2_with fail
   go_ret2;exact ⟨F,C,-1,3,none,rfl,dB _,.inr ⟨rfl,rfl,A⟩,D.out,u,p,Z0⟩
  ·go_wp2_with fail
   go_ret2;exact ⟨F,C,-1,3,none,rfl,dB _,.inr ⟨rfl,rfl,A⟩,D.out,u,p,Z0⟩
end
section
variable {B g mb : Nat} {w w' : World} {T : List Tm} {S R : Nat -> Prop} {nv sv : Value} {rows : List (List Value)} {D : DataW Unit}
theorem Ar.apart (h:Ar B w g T S) (o:dD R w w') (hd:∀i,S i->¬ R i):Ar B w' g T S:=by
 obtain ⟨nv,sv,mb,rows,D,h⟩:=h;refine ⟨nv,sv,mb,rows,D,h.ok,o.blk h.blk (hd _ h.sg),o.own h.nodes (fun i hi=>hd i (h.sn i hi)),h.nrows,fun i t us hi z=>?_,o.own h.sizes (fun i hi=>hd i (h.ss i hi)),?_,h.idx,h.sg,h.sm,h.sn,h.ss,h.sB,fun i hi=>Yi (h.sL i hi) o.size⟩
 ·obtain ⟨av,js,e,r,p,hs⟩:=h.node i t us hi z
  exact ⟨av,js,e,r,o.own p (fun i hi=>hd i (hs i hi)),hs⟩
 ·obtain ⟨q,j,u,v⟩:=h.map
  exact ⟨q,j,(o.block mb (h.sL mb h.sm) (hd mb h.sm)).trans u,v⟩
end
structure Duo (w:World) (Ba ga:Nat) (Ta:List Tm) (Sa:Nat->Prop) (Bb gb:Nat) (Tb:List Tm) (Sb:Nat->Prop) (W:World):Prop where
 tab:Tab w
 bel:Below w.heap.size w W
 a1:Ar Ba W ga Ta Sa
 a2:Ar Bb W gb Tb Sb
 b1:w.heap.size<=Ba
 b2:w.heap.size<=Bb
 c1:Ba<=W.heap.size
 c2:Bb<=W.heap.size
 d:∀i,Sa i->¬ Sb i
 f1:Ta.length<=1000000000
 f2:Tb.length<=1000000000
section
variable {Ba ga Bb gb : Nat} {w W W' : World} {Ta Ta' Tb Tb' : List Tm} {Sa Sa' Sb Sb' : Nat -> Prop}
theorem Duo.below (h:Duo w Ba ga Ta Sa Bb gb Tb Sb W) (j:Below W.heap.size W W'):Duo w Ba ga Ta Sa Bb gb Tb Sb W' :=
 ⟨h.tab,h.bel.trans (j.mono h.bel.size),h.a1.below j,h.a2.below j,h.b1,h.b2,Yg h.c1 j.size,Yg h.c2 j.size,h.d,h.f1,h.f2⟩
end
section
variable {B g : Nat} {T : List Tm} {S : Nat -> Prop} {w : World}
theorem Nl {w w0 w':World} {g:Nat} {S:Nat->Prop} (p:Tab w0) (j:Below w0.heap.size w0 w) (h:Ar w.heap.size w' g [] S) (o:Below w.heap.size w w'):Use w.heap.size w' g [] S :=
 ⟨h,⟨w0,p,j.size,j.trans (o.mono j.size)⟩,o.size,Yb _⟩
end
def IsT (l:List UInt8):Prop:=∃t,good t/\l=enc t
theorem SE {s:ByteArray} {t:Tm} (q:good t) (he:s.data.toList=enc t):0<s.size/\∀h:0<s.size,s[0].toNat=240+t.k:=by
 obtain ⟨r,o⟩:=wJ t q;have u:=wH q;have j:=aC s;rw [he,o] at j
 have hp:0<s.size:=by
  rw [<-j];simp
 refine ⟨hp,fun h=>?_⟩
 have g:s.data.toList=s[0] :: s.data.toList.drop 1:=by
  have:=fF (s:=s.data.toList) (p:=0) h;rw [List.drop_zero] at this;exact this
 rw [he,o] at g;injection g with h1 _;rw [<-h1,UInt8.toNat_ofNat'];omega
section
variable {w : World}
theorem Rj (P:Tab w) (x:ByteArray) (hs:x.size<=131072):Calls prog 49 #[.string x] w (fun e w'=>∃r,e=.returned (.bool r)/\(r=true↔∃t,good t/\x.data.toList=enc t/\t.k≠1)/\Below w.heap.size w w'):=by
 have Q:=hide (zS w);have HT:=hide P;have R:=hide (fun (W:World) (B g:Nat) (S:Nat->Prop) (A:Use B W g [] S)=>xJ A hs Z3);clear P
 by_cases F:x.size=0
 ·have q:x.data.toList=[]:=Yc (by rw [aC];exact F)
  have L:(x.toList == [])=true:=by rw [ByteArray.toList_eq,q];rfl
  have D:=hide q;clear q F;go_enter func49,ntmps49;go_wp2_with fail;go_ret;refine ⟨false,rfl,?_,Below.refl _ _⟩;simp only [Bool.false_eq_true,false_iff];rintro ⟨t,p,he,_⟩;exact qc t (he.symm.trans D.out)
 ·have hi:(0:Int)<x.size:=by omega
  have L:(x.toList == [])=false:=by
   rw [Y3,ByteArray.toList_eq];intro e;have:=aC x;rw [e] at this;simp at this;omega
  have N:=hide (fun t p he=>(SE (s:=x) (t:=t) p he).2 Z0);clear F;have u:0<x.size:=Z0
  by_cases h:(((x[0]'u).toNat:Nat):Int)=241
  ·have J:((((x[0]'u).toNat:Nat):Int) == 241)=true:=by rw [beq_iff_eq];exact h
   have C:=hide h;clear h;go_enter func49,ntmps49;go_wp2_with fail;have h:=C.out;go_ret;refine ⟨false,rfl,?_,Below.refl _ _⟩;simp only [Bool.false_eq_true,false_iff];rintro ⟨t,p,he,V⟩;have:=N.out t p he;omega
  ·have J:((((x[0]'u).toNat:Nat):Int) == 241)=false:=by rw [Y3];exact h
   have C:=hide h;clear h;go_enter func49,ntmps49;go_wp2_with fail;have h:=C.out;refine Q.out.mono ?_;rintro e w1 ⟨g,S,rfl,O,j⟩;have A:Use w.heap.size w1 g [] S:=Nl HT.out (Below.refl _ _) O j;have T:=hide (R.out w1 w.heap.size g S A);clear A O;go_wp2_with fail;refine T.out.mono ?_;rintro e w2 ⟨Z,Y,n,k,o,rfl,U,X,G,v,_,_⟩;have K:=G.sB;have z:=v.below j.size (fun i hi=>K i (v.sub i hi));rcases X with ⟨t,rfl,p,he,rfl⟩ | ⟨rfl,rfl,I⟩
   ·go_wp2_with fail
    go_ret;refine ⟨true,rfl,?_,j.trans z⟩;simp only [true_iff];refine ⟨t,p,he,fun V=>?_⟩;have:=N.out t p he;omega
   ·go_wp2_with fail
    go_ret;refine ⟨false,rfl,?_,j.trans z⟩;simp only [Bool.false_eq_true,false_iff];rintro ⟨t,p,he,_⟩;exact I t p he
theorem I4 (s:ByteArray) (hs:s.size<=131072) (w:World):Calls prog 260 #[.string s] w (fun e w'=>∃r,e=.returned (.bool r)/\(r=true↔IsT s.data.toList)/\Below w.heap.size w w'):=by
 have B:=hide (yG s hs s.size 0 w Z0 (Yb _));have hi:¬ (131072:Int)<s.size:=Z0;go_enter func260,ntmps260;go_wp2_with fail;refine B.out.mono ?_;rintro e w1 ⟨j,⟨D,rfl⟩ | ⟨t,q,A,n,c,o,F,J,he,z,rfl⟩⟩
 ·go_wp2_with fail
  go_ret;refine ⟨false,rfl,?_,j.alloc j.size _⟩;simp only [Bool.false_eq_true,false_iff];rintro ⟨t,o,he⟩;exact D t [] o (by rw [List.drop_zero,he,List.append_nil])
 ·have g:=j.alloc j.size (.cells #[.int .i64 t.k,.int .i64 t.a,.int .i64 t.b,.string t.s,.slice A n c] 274)
  rw [List.drop_zero] at he
  by_cases h:q=s.size
  ·subst h
   have p:=hide he;clear he z;go_wp2_with fail;go_ret;refine ⟨true,Z3,?_,g⟩;simp only [true_iff];refine ⟨t,o,?_⟩;have:=p.out;rw [List.drop_of_length_le ZP,List.append_nil] at this;exact this
  ·have G:((q:Int) == s.size)=false:=by simp;omega
   have p:=hide he;clear he z;go_wp2_with fail;go_ret;refine ⟨false,by simp [h],?_,g⟩;simp only [Bool.false_eq_true,false_iff];rintro ⟨u,I,e⟩;have C:enc t++s.data.toList.drop q=enc u++[]:=by rw [<-p.out,e,List.append_nil]
   have v:=Ye List.length (mX t u _ _ o I C).2;rw [Yu,aC] at v;simp at v;omega
theorem M8 (s:ByteArray) {t:Tm} (p:good t) (he:s.data.toList=enc t) (o:s.size<=131072) (w:World):Calls prog 196 #[.string s] w fun e w'=>e=.returned (.int .i64 t.k)/\w=w':=by
 have j:fine t:=⟨p,by rw [<-he,aC];exact o⟩
 have h:=iU (dZ j) w
 have g:tx (some t)=s:=by
  show bs (enc t)=s;rw [<-he];rfl
 rw [g] at h;exact h
theorem Oy (s:ByteArray) (hs:s.size<=131072) (w:World):Calls prog 194 #[.string s] w (fun e w'=>∃r,e=.returned (.bool r)/\(r=true↔∃t,good t/\s.data.toList=enc t/\t.k≠1)/\Below w.heap.size w w'):=by
 have q:=hide (I4 s hs w);have HK:=hide (fun t g he W=>M8 s (t:=t) g he hs W);go_enter func194,ntmps194;go_wp2_with fail;refine q.out.mono ?_;rintro e w1 ⟨r,rfl,h,p⟩;have v:=hide h
 cases r with
 | false =>
  clear h HK;go_wp2_with fail;go_ret;refine ⟨false,rfl,?_,p⟩;simp only [Bool.false_eq_true,false_iff];rintro ⟨t,g,he,_⟩;have:=v.out.2 ⟨t,g,he⟩;cases this
 | true =>
  obtain ⟨t,g,he⟩:=h.1 rfl;have HK2:=hide (HK.out t g he w1);have o:=hide he;clear he HK h;go_wp2_with fail;refine HK2.out.mono ?_;rintro e w2 ⟨rfl,rfl⟩;go_wp2_with fail;go_ret;refine ⟨((t.k:Int) != 1),rfl,?_,p⟩
  ·rw [YG,show (((t.k:Nat):Int)≠1↔t.k≠1) by omega]
   constructor
   ·exact fun j=>⟨t,g,o.out,j⟩
   ·rintro ⟨u,z,e,j⟩
    obtain ⟨rfl,_⟩:=mX t u [] [] g z (by rw [List.append_nil,List.append_nil,<- o.out,e]);exact j
end
def pV (B:Nat) (w:World) (g:Nat) (T:List Tm) (S:Nat->Prop) (o:Option Tm) (m:Nat) (e:Ending) (w':World):Prop :=
 ∃T' n S',e=.returned (.int .i64 n)/\Idn T' o n/\T <+: T'/\T'.length<=T.length+m/\Ar B w' g T' S'/\Grown S w S' w'
theorem Done.f {B:Nat} {w:World} {g:Nat} {T:List Tm} {S:Nat->Prop} {w':World} (h:Done B w g T S o e w'):pV B w g T S o 1 e w':=by
 obtain ⟨u,n1,r,v,j,p,q⟩:=h;exact ⟨u,n1,r,v,j.idn,j.pre,j.len,p,q⟩
theorem pV.mono {B:Nat} {w:World} {g:Nat} {T:List Tm} {S:Nat->Prop} {w':World} (h:pV B w g T S o m e w') (D:m<=j):pV B w g T S o j e w':=by
 obtain ⟨q,n1,p,r,u,v,C,z,A⟩:=h;exact ⟨q,n1,p,r,u,v,Z0,z,A⟩
section
variable {B g : Nat} {w : World} {T : List Tm} {S : Nat -> Prop}
theorem J6 (h:Use B w g T S) (s:ByteArray) (hs:s.size<=100000) (hT:T.length<=800000000):Calls prog 12 #[.pointer (some ⟨g,0,none⟩),.string s] w (pV B w g T S (ofT s.data.toList) (2*s.size+1)):=by
 have HO:=hide (Rj h.tab s Z0);have H:=hide h;clear h;go_enter func12,ntmps12;go_wp2_with fail;refine HO.out.mono ?_;rintro e w1 ⟨r,rfl,D,v⟩;have j:=H.out.below v;have u:=Grown.of_below (S:=S) v
 cases r with
 | true =>
  have F:=hide (xJ j (s:=s) Z0 hT);have Hr:=hide (D.1 rfl);clear D j;go_wp2_with fail;refine F.out.mono ?_;rintro e w2 ⟨J,I,n,k,o,rfl,z,L,U,X,hp,hl⟩;obtain ⟨Y,q,p,A⟩:=Hr.out;rcases L with ⟨t,rfl,N,he,rfl⟩ | ⟨rfl,rfl,K⟩
  ·obtain rfl:t=Y:=Ib N q (he.symm.trans p)
   have G:=hide (show pV B w g T S (ofT s.data.toList) (2*s.size+1) (.returned (.int .i64 n)) w2 from ⟨J,n,I,rfl,by rw [he,Fb N A];exact z,hp,Z0,U,u.trans X⟩);clear z U X hp hl he N q p A;go_wp2_with fail;go_ret;exact G.out
  ·exact absurd p (K Y q)
 | false =>
  have F:=hide (oU j (s:=s) Z0);have C:¬ oK s.data.toList:=fun h=>by have:=D.2 h;cases this
  have Z:=hide C;clear D j C;go_wp2_with fail;refine F.out.mono ?_;intro e w2 V;obtain ⟨J,n,I,rfl,O,P,h3,Q,R⟩:=V.f;have C:=Z.out;have G:=hide (show pV B w g T S (ofT s.data.toList) (2*s.size+1) (.returned (.int .i64 n)) w2 from ⟨J,n,I,rfl,by rw [Gi C];exact O,P,Z0,Q,u.trans R⟩);clear O P h3 Q R V C;go_wp2_with fail;go_ret;exact G.out
end
section
variable {w : World}
theorem yP (w:World) (o:Obj) (t:TypeId) (cs:Array Value):Blk ((w.alloc o).alloc (.cells cs t)) (w.heap.size+1) t cs:=by
 have:=Blk.new (w.alloc o) t cs;have e:(w.alloc o).heap.size=w.heap.size+1:=World.size_alloc _ _;rw [e] at this;exact this
theorem aT {w:World} (o:Obj):Below w.heap.size w (w.alloc o):=(Below.refl _ _).alloc (Y2 _) o
theorem j6 (s:ByteArray) (hs:s.size<=100000) (w:World):Calls prog 113 #[.string s] w (Says (txt (ofT s.data.toList)) w):=by
 have HO:=hide (Oy s Z0 w);have p:=hide (fun (W:World)=>sF s.data.toList W ZP);rw [Pd] at p;go_enter func113,ntmps113;go_wp2_with fail;refine HO.out.mono ?_;rintro e w1 ⟨r,rfl,v,j⟩;have q:=hide v;clear v
 cases r with
 | true =>
  have u:=QN (q.out.1 rfl);have z:=hide (show Says (txt (ofT s.data.toList)) w (.returned (.string s)) w1 from ⟨by rw [u];rfl,j⟩);clear u;go_wp2_with fail;go_ret;exact z.out
 | false =>
  have A:=hide (Gi (s:=s.data.toList) (fun h=>by have:=q.out.2 h;cases this));go_wp2_with fail;refine (p.out w1).mono ?_;rintro e w2 ⟨rfl,o⟩;go_wp2_with fail;go_ret;rw [A.out];exact ⟨rfl,j.trans (o.mono j.size)⟩
end
def Tp (w0:World) (B g:Nat) (T:List Tm) (S:Nat->Prop) (wb:World) (o:Option Tm) (m:Nat) (e:Ending) (w':World):Prop :=
 ∃T' n S',e=.returned (.int .i64 n)/\Idn T' o n/\T <+: T'/\T'.length<=T.length+m/\Pay w0 B g T' S' w'/\Grown S wb S' w'
section
variable {w0 wb : World} {B g : Nat} {T : List Tm} {S : Nat -> Prop}
theorem pV.y (h:Pay w0 B g T S wb) {w w':World} (p:Below wb.heap.size wb w) (D:T.length+m<=1000000000) (hd:pV B w g T S o m e w'):Tp w0 B g T S wb o m e w':=by
 obtain ⟨r,n1,q,u,v,z,A,C,j⟩:=hd;exact ⟨r,n1,q,u,v,z,A,(h.below p).grown j C Z0,(Grown.of_below p).trans j⟩
end
end Go.Proofs.YtnhekaepgpbijaaGreatDoor
