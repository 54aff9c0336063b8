/- Several of my texts in one: RdrE, Owner, Trans, TransL, SignQ, SignC, RdrF, RdrH, RdrG, Two, Opq. -/
import Derived.Test.YtnhekaepgpbijaaGreatDoorJRdrDG
import Derived.Test.YtnhekaepgpbijaaGreatDoorJEncA
import Derived.Test.YtnhekaepgpbijaaGreatDoorJParseA
import Derived.Test.YtnhekaepgpbijaaGreatDoorJMakeAG
import Derived.Test.YtnhekaepgpbijaaGreatDoorJChnG
import Derived.Test.YtnhekaepgpbijaaGreatDoorJSignPG
set_option linter.unusedVariables false
set_option linter.unusedSimpArgs false
set_option maxHeartbeats 40000000
set_option maxRecDepth 100000
namespace Go.Proofs.YtnhekaepgpbijaaGreatDoor
open Go.RowKit Go.ChangeShapes Go.WideShapes Go.Sort
theorem NT {x:ByteArray} {l:List Tm} {t:Tm} (h:dL x l=some t):t=.mk 5 0 0 x l:=by
 unfold dL at h
 split at h
 ·injection h with h
  exact h.symm
 ·cases h
theorem JD {x:ByteArray} {l:List Tm} {i:Nat} (hi:i<l.length) (h8:l.length≤8) (h:i=0∨dL x (l.take i)=some (.mk 5 0 0 x (l.take i))) :
  (zI (dL x (l.take i)) (some l[i])=none∧dL x l=none)∨∃r,zI (dL x (l.take i)) (some l[i])=some (.mk 5 0 0 x r)∧r.length=i+1∧((r[i]?=some l[i]∧dL x (l.take (i+1))=some (.mk 5 0 0 x (l.take (i+1)))∧r=l.take (i+1))∨(r[i]?≠some l[i]∧dL x l=none)):=by
 have hlen:(l.take i).length=i:=by rw [List.length_take];omega
 have hsn:l.take (i+1)=l.take i++[l[i]]:=List.take_succ_eq_append_getElem hi
 cases e:dL x (l.take i) with
 | none =>
  rcases h with rfl | h
  ·rw [List.take_zero,sU] at e
   exact .inl ⟨rfl,BV e⟩
  ·rw [e] at h
   cases h
 | some t =>
  obtain rfl:=NT e
  by_cases hk:l[i].k=2
  ·obtain ⟨s1,s2,s3⟩:=Eo e hk (by omega)
   rw [hlen] at s2 s3;refine .inr ⟨ins l[i] (l.take i),s1,by rw [rU,hlen],?_⟩
   by_cases hr:(ins l[i] (l.take i))[i]?=some l[i]
   ·obtain ⟨h1,h2⟩:=s2 hr
    exact .inl ⟨hr,by rw [hsn];exact h2,by rw [hsn];exact h1⟩
   ·refine .inr ⟨hr,?_⟩
    have:=s3 hr (l.drop (i+1));rw [←hsn,List.take_append_drop] at this;exact this
  ·refine .inl ⟨?_,Dp (List.getElem_mem hi) hk⟩
   show (if _ then _ else _)=none;rw [if_neg];rintro ⟨_,h2,_⟩;exact hk h2
section
variable {B b g p p0 N : Nat} {s : ByteArray} {T : List Tm} {S : Nat → Prop} {w w1 w2 : World} {c : UInt8} {s1 : List UInt8}
structure ShI (B b g:Nat) (s:ByteArray) (p':Nat) (x:ByteArray) (l:List Tm) (gb:Nat) (T:List Tm) (S:Nat→Prop) (w:World) (i:Nat) (T':List Tm) (S':Nat→Prop) (t:Int) (wr:World):Prop where
 rd:Rd B b g s p' T' S' wr
 grown:Grown (SR b S) w (SR b S') wr
 pre:T <+: T'
 few:T'.length≤T.length+1+i
 id:Idn T' (dL x (l.take i)) t
 ok:i=0∨dL x (l.take i)=some (.mk 5 0 0 x (l.take i))
 cell:∀(k:Nat) (u:Tm),l[k]?=some u→∃m:Int,wr.cell? ⟨gb,k,none⟩=some (.int .i64 m)∧Idn T' (some u) m
 out:0<l.length→¬ SR b S' gb∧gb<wr.heap.size
theorem KV {l:List Tm} {k:Nat} {u:Tm} (h:l[k]?=some u):0<l.length:=by
 have:=(List.getElem?_eq_some_iff.1 h).1;omega
theorem ShI.step {p':Nat} {x:ByteArray} {l:List Tm} {gb i:Nat} {T' T2:List Tm} {S' S2:Nat→Prop} {t m:Int} {wr:World} (h:ShI B b g s p' x l gb T S w i T' S' t wr) (hG:Grown S' wr S2 w1) (hA:Ar B w1 g T2 S2) (hp:T' <+: T2) (hl:T2.length≤T'.length+1) (hf:T2.length+2*(s.size - p')≤900000000) (hb:Below w1.heap.size w1 w2)
  {o:Option Tm} (hm:Idn T2 o m) (ho:o=dL x (l.take (i+1))) (hok:dL x (l.take (i+1))=some (.mk 5 0 0 x (l.take (i+1)))):ShI B b g s p' x l gb T S w (i+1) T2 S2 m w2 :=
 ⟨(h.rd.grown hG hA hf).below hb,(h.grown.trans (hG.sr b)).trans (Grown.of_below hb),h.pre.trans hp,by have:=h.few;omega,ho ▸ hm,.inr hok,fun k u hk=>by
  obtain ⟨m',h1,h2⟩:=h.cell k u hk;obtain ⟨h3,h4⟩:=h.out (KV hk)
  exact ⟨m',(hb.cell (p:=⟨gb,k,none⟩) (Nat.lt_of_lt_of_le h4 hG.size)).trans (hG.outs.cell h1 (fun h9=>h3 (.inl h9))),h2.pre hp⟩,fun h0=>by
  obtain ⟨h3,h4⟩:=h.out h0
  exact ⟨(hG.sr b).notin2 h3 h4,Nat.lt_of_lt_of_le (Nat.lt_of_lt_of_le h4 hG.size) hb.size⟩⟩
theorem CW {T:List Tm} {n:Int} {w w':World} {e:Ending} {t:Tm} {i:Nat} (h:arg T n=some t) (hi:i<t.l.length) (hv:yF T n w e w') :
  ∃gv cv m x0 x1 x2 x3,e=.returned (.tuple #[.agg #[.int .i64 x0,.int .i64 x1,.int .i64 x2,.string x3,.slice (some ⟨gv,0,none⟩) t.l.length cv],.bool true])∧w'.cell? ⟨gv,i,none⟩=some (.int .i64 m)∧Idn T (t.l[i]?) m∧gv<w'.heap.size∧Below w.heap.size w w':=by
 obtain ⟨js,A,c,ha,rfl,hown,hb⟩:=xR h hv;have hjl:=ha.len;obtain ⟨gv,cap,hv2,_,hlt⟩:=hown.form (by omega);have hA:A=some ⟨gv,0,none⟩:=by injection hv2
 subst hA;obtain ⟨c1,hc1,hT⟩:=ha.at_ (p:=i) (by omega);have hc:=hown.cells (g:=gv) rfl i (.int .i64 (js[i]'(by omega):Nat)) (by rw [List.getElem?_map,List.getElem?_map,List.getElem?_eq_getElem (by omega)];rfl);rw [bJ] at hc;refine ⟨gv,c,(js[i]'(by omega):Nat),t.k,t.a,t.b,t.s,rfl,hc,⟨by rw [zC,hT,hc1],fun h0=>by rw [hc1] at h0;cases h0⟩,hlt,hb⟩
theorem JY (IH:dM B b g s N) (h:Rd B b g s (p0+1) T S w) (hN:s.size - (p0+1)<N) (h1:s.data.toList.drop p0=c :: s.data.toList.drop (p0+1)) (hc:c.toNat=245) (hK:T.length+2*(s.size - p0)≤900000000) :
  Calls Tryz.prog 170 #[.pointer (some ⟨b,0,none⟩)] w (Got B b g s p0 (p0+1) T S w):=by
 have HX:=hide (uM h);have H1:=hide h1;have HIH:=hide IH;have hlen:=h.len;have hsz:=h.hs;clear h h1 IH;go_enter Tryz.func170,Tryz.ntmps170;go_wp2_with fail;refine HX.out.mono ?_;rintro e w1 (⟨p1,rfl,hno,hR,hG,hle⟩ | ⟨n,hn,h5,rfl,hR,hG⟩)
 ·go_wp2_with fail
  go_ret;refine iJ ?_ hR hG hle;rw [H1.out];exact no5 hc (by omega)
 ·have e1:p0+1+4+n=p0+1+(4+n):=by omega
  have hnl:(bs ((s.data.toList.drop (p0+1+4)).take n)).size≤131072:=by
   show ((s.data.toList.drop (p0+1+4)).take n).length≤131072;rw [List.length_take,List.length_drop,aD];omega
  by_cases h4:s.size<p0+1+4+n+4
  ·have HC:=hide (rq hR 8 h4)
   go_wp2_with fail;refine HC.out.mono ?_;rintro e w2 ⟨p2,rfl,hR2,hG2,hle2⟩;go_wp2_with fail;go_ret;refine iJ ?_ hR2 (hG.trans hG2) (by omega);rw [H1.out];exact TY hc (by omega) (by omega)
  ·obtain ⟨m,hm⟩:∃m,m=n4 (s.data.toList.drop (p0+1+4+n)):=⟨_,rfl⟩
   have hH:Hed 5 0 0 (bs ((s.data.toList.drop (p0+1+4)).take n)) m (s.data.toList.drop (p0+1)) (s.data.toList.drop (p0+1+4+n+4)):=by
    have:=Ur (s1:=s.data.toList.drop (p0+1)) (by omega) (by omega);rw [List.drop_drop,List.drop_drop,List.drop_drop,← hn,← e1,← hm] at this;rw [show p0+1+4+n+4=p0+1+(8+n) by omega];exact this
   by_cases hm8:(8:Int)<(m:Int)
   ·have HC:=hide (qR hR 8 (by omega) hm hm8)
    go_wp2_with fail;refine HC.out.mono ?_;rintro e w2 ⟨p2,rfl,hR2,hG2,hle2⟩;go_wp2_with fail;go_ret;refine iJ ?_ hR2 (hG.trans hG2) (by omega);rw [H1.out];exact hH.nohd hc (fun hh=>by simp only [hd] at hh;omega)
   ·have HC:=hide (qU HIH.out hR (by omega) 8 (by omega) hm (by omega) (by omega))
    have HH:=hide hH;clear hH hm hn e1;generalize hx:bs ((s.data.toList.drop (p0+1+4)).take n)=x at HH hnl ⊢;clear hx;go_wp2_with fail;refine HC.out.mono ?_;rintro e w2 (⟨T1,S1,p1,rfl,hNo,hR2,hG2,hpre,hl,hle⟩ | ⟨T1,S1,p1,l,A,cz,rfl,hg,hml,he,hI,hR2,hG2,hpre,hl,hle⟩)
    ·go_wp2_with fail
     go_ret;exact ⟨T1,-1,S1,p1,none,rfl,cu _,p9 H1.out hc HH.out hNo,hR2,hG.trans hG2,hpre,by omega,by omega⟩
    ·obtain ⟨gb,hgb,hcell⟩:∃gb,(0<m→A=some ⟨gb,0,none⟩∧gb<w2.heap.size∧¬ SR b S1 gb)∧(∀(k:Nat) (u:Tm),l[k]?=some u→∃q:Int,w2.cell? ⟨gb,k,none⟩=some (.int .i64 q)∧Idn T1 (some u) q):=by
      rcases Nat.eq_zero_or_pos m with h0 | h0
      ·subst h0
       obtain rfl:l=[]:=List.eq_nil_of_length_eq_zero hml;exact ⟨0,fun h=>absurd h (by omega),fun k u hk=>by simp at hk⟩
      ·obtain ⟨gb,rfl,hgl,hc⟩:=jc hI hml h0
       exact ⟨gb,fun _=>⟨rfl,hgl,hI.out gb rfl⟩,hc⟩
     have hb2:=jh hR2;have HB:=hide (G8 hR2.use (s:=x) (by omega));have hR2h:=hide hR2;have hG2h:=hide (hG.trans hG2);have hgbh:=hide hgb;have hcellh:=hide hcell;have hfw:=hR2.few;have hpw:=hR2.hp;clear hR2 hG2 hI hG hR hgb hcell HC HX;go_wp2_with fail;refine HB.out.mono ?_;rintro e w3 ⟨T2,t0,S2,rfl,hP,hA2,hG3⟩;have hlP:=hP.len
     have HI0:Hid (ShI B b g s p1 x l gb T1 S1 w2 0 T2 S2 t0 w3):=hide ⟨hR2h.out.grown hG3 hA2 (by omega),hG3.sr b,hP.pre,by omega,by rw [List.take_zero,sU];exact hP.idn,.inl rfl,fun k u hk=>by
      obtain ⟨q,h1,h2⟩:=hcellh.out k u hk;obtain ⟨h3,h4,h5⟩:=hgbh.out (by have:=KV hk;omega)
      exact ⟨q,hG3.outs.cell h1 (fun h9=>h5 (.inl h9)),h2.pre hP.pre⟩,fun h0=>by
      obtain ⟨h3,h4,h5⟩:=hgbh.out (by omega)
      exact ⟨(hG3.sr b).notin2 h5 h4,Nat.lt_of_lt_of_le h4 hG3.size⟩⟩
     have hA0:0<m→A=some ⟨gb,0,none⟩:=fun h=>(hgbh.out h).1
     clear hb2 HB hP hA2 hG3 hlP hgbh hcellh;have H2:=hide he;clear he;go_wp2_with fail
     go_loopw [33,6] (fun vi vt wr=>∃(i:Nat) (T':List Tm) (S':Nat→Prop) (t:Int),vi=.int .i64 i∧vt=.int .i64 t∧i≤m∧ShI B b g s p1 x l gb T1 S1 w2 i T' S' t wr) (fun vi _ _=>m - (intOf vi).toNat)
     case atStart=>exact ⟨0,T2,S2,t0,rfl,rfl,Nat.zero_le _,HI0.out⟩
     case round =>
      obtain ⟨i,T',S',t,rfl,rfl,hi,hI⟩:=hrel
      by_cases hlt:i<m
      ·have hii:(i:Int)<m:=by omega
       obtain rfl:=hA0 (by omega);obtain ⟨q,hcq,hq⟩:=hI.cell i l[i] (List.getElem?_eq_getElem (by omega));have HE:=hide (MJ hI.rd.use t q);rw [hI.id.1,hq.1] at HE;have hbr:=jh hI.rd;have Hn:=hide (JD (x:=x) (i:=i) (l:=l) (by omega) (by omega) hI.ok);have HI:=hide hI;have hfwI:=hI.few;have Hq:=hide hq;clear hI hq;go_wp2_with fail;refine HE.out.mono ?_;rintro e w4 ⟨T3,t3,S3,rfl,hP,hA3,hG3⟩;have hlP:=hP.len;have hR4:=HI.out.rd.grown hG3 hA3 (by omega);have hb4:=jh hR4;have HV:=hide (mf hA3 t3);rcases Hn.out with ⟨hno,hfin⟩ | ⟨r,hso,hrl,hrest⟩
       ·have Hid3:=hide (hno ▸ hP.idn)
        have Hfin:=hide (show Got B b g s p0 (p0+1) T S w (.returned (.int .i64 (-1))) w4 from ⟨T3,-1,S3,p1,none,rfl,cu _,hfin ▸ kr hR4.hs H1.out hc (by omega) HH.out hg hml H2.out (lm x l (by omega)),hR4,hG2h.out.trans (HI.out.grown.trans (hG3.sr b)),hpre.trans (HI.out.pre.trans hP.pre),by omega,by omega⟩);clear hP hA3 hG3 hR4 hno hfin;go_wp2_with fail;refine HV.out.mono ?_;intro e w5 hv;obtain ⟨rfl,hb5⟩:=xG Hid3.out.1 hv;clear hv;go_wp2_with fail;go_ret;obtain ⟨T',n',S',p',o,he',h2,h3,h4,h5,h6⟩:=Hfin.out;cases he'
        have hb6:=hb5.alloc hb5.size (.cells #[.int .i64 0,.int .i64 0,.int .i64 0,.string ⟨#[]⟩,.slice none 0 0] 126);exact ⟨T',-1,S',p',o,rfl,h2,h3,h4.below hb6,h5.trans (Grown.of_below hb6),h6⟩
       ·have hid3:=hso ▸ hP.idn
        have hX:=hP.pre;clear hP;go_wp2_with fail;refine HV.out.mono ?_;intro e w5 hv;obtain ⟨gv,cv,q',x0,x1,x2,x3,rfl,hc5,hq5,hgv,hb5⟩:=CW (i:=i) hid3.1 (by show i<r.length;omega) hv;clear hv;have hii2:(i:Int)<r.length:=by omega
        have hqi:q'=q↔r[i]?=some l[i]:=hq5.eq_iff hA3.ok (Hq.out.pre hX);have hsm:(Tm.mk 5 0 0 x r).l.length=r.length:=rfl;rw [hsm];rcases hrest with ⟨hr1,hr2,hr3⟩ | ⟨hr1,hr2⟩
        ·obtain rfl:=hqi.2 hr1
         have HS:=hide (fun w6 (hb6:Below w4.heap.size w4 w6)=>HI.out.step hG3 hA3 hX (by omega) (by omega) hb6 hid3 (by rw [hr3] at *;exact hr2.symm) hr2);clear hA3 hG3 hR4 hso hid3 hr1 hr2 hr3 hqi hq5 hX;go_wp2;exact ⟨⟨i+1,T3,S3,t3,by go_num,rfl,by omega,HS.out _ (hb5.alloc hb5.size _)⟩,by simp [intOf];omega⟩
        ·have hne:¬ q'=q:=fun h=>hr1 (hqi.1 h)
         have Hfin:=hide (show Got B b g s p0 (p0+1) T S w (.returned (.int .i64 (-1))) w4 from ⟨T3,-1,S3,p1,none,rfl,cu _,hr2 ▸ kr hR4.hs H1.out hc (by omega) HH.out hg hml H2.out (lm x l (by omega)),hR4,hG2h.out.trans (HI.out.grown.trans (hG3.sr b)),hpre.trans (HI.out.pre.trans hX),by omega,by omega⟩);clear hA3 hG3 hR4 hso hid3 hr1 hr2 hqi hq5 hX;go_wp2;go_ret;obtain ⟨T',n',S',p',o,he',h2,h3,h4,h5,h6⟩:=Hfin.out;cases he'
         have hb6:=hb5.alloc hb5.size (.cells #[.int .i64 x0,.int .i64 x1,.int .i64 x2,.string x3,.slice (some ⟨gv,0,none⟩) (i+1) cv] 126);exact ⟨T',-1,S',p',o,rfl,h2,h3,h4.below hb6,h5.trans (Grown.of_below hb6),h6⟩
      ·obtain rfl:i=m:=by omega
       have hii:¬ (i:Int)<i:=by omega
       have HI:=hide hI;have hrd:=hI.rd.hs;have hle1:=hI.few;have hRT:=hide (kr hrd H1.out hc (by omega) HH.out hg hml H2.out (lm x l (by omega)));clear hI;go_wp2;go_ret;have hI:=HI.out;have hid:=hI.id;rw [←hml,List.take_length] at hid;exact ⟨T',t,S',p1,dL x l,rfl,hid,hRT.out,hI.rd,hG2h.out.trans hI.grown,hpre.trans hI.pre,by omega,by omega⟩
end
def Ti (o:Option Tm):Bool:=match o with
 | some t=>t.k == 4
 | none=>false
def Um (o:Option Tm):Nat:=match o with
 | some t=>if t.k=4 then (match t.l with
  | c :: _=>c.a
  | []=>0) else 0
 | none=>0
theorem lM.from_ {B g:Nat} {w w2 w':World} {T:List Tm} {S:Nat→Prop} {os:List (Option Tm)} {e:Ending} (h:lM B w2 g T S os e w') (hb:Below w.heap.size w w2):lM B w g T S os e w':=by
 obtain ⟨T',S',v,h1,⟨⟨ns,h2,h2'⟩,h2''⟩,h3,h4,h5,h6⟩:=h;exact ⟨T',S',v,h1,⟨⟨ns,lF h2 hb.size,h2'⟩,h2''⟩,h3,h4,h5,(Grown.of_below hb).trans h6⟩
theorem lM.nil_ {B g:Nat} {w w':World} {T:List Tm} {S:Nat→Prop} (h:Ar B w g T S) (hb:Below w.heap.size w w'):lM B w g T S [] (.returned (.slice none 0 0)) w' :=
 ⟨T,S,_,rfl,yH _ _ _ _,List.prefix_refl _,Nat.le_refl _,h.below hb,Grown.of_below hb⟩
structure UH (p:RB):Prop where
 w0:p.w0<4294967296
 w1:p.w1<4294967296
 w2:p.w2<4294967296
 v0:p.v0.size≤1000000
 v1:p.v1.size≤1000000
 v2:p.v2.size≤1000000
 v3:p.v3.size≤1000000
 gp:p.gp.size≤300000
 gg:p.gg.size≤300000
section
variable {B g : Nat} {w : World} {T : List Tm} {S : Nat → Prop}
theorem lM.open_ {os:List (Option Tm)} {e:Ending} {w':World} (h:lM B w g T S os e w'):∃T' S' A c,e=.returned (.slice A os.length c)∧IdO w.heap.size w' T' os (.slice A os.length c) S'∧T <+: T'∧T'.length≤T.length+os.length∧Ar B w' g T' S'∧Grown S w S' w':=by
 obtain ⟨T',S',v,h1,h2,h3⟩:=h;obtain ⟨A,c,rfl⟩:=h2.sl;exact ⟨T',S',A,c,h1,h2,h3⟩
end
theorem jL.app {T:List Tm} {ms ms':List (Option Tm)} {ns ns':List Int} (h:jL T ms ns) (h':jL T ms' ns'):jL T (ms++ms') (ns++ns'):=by
 refine ⟨by simp [h.1,h'.1],fun i o n h1 h2=>?_⟩;rcases Nat.lt_or_ge i ms.length with hlt | hge
 ·rw [List.getElem?_append_left hlt] at h1
  rw [List.getElem?_append_left (by rw [h.1];exact hlt)] at h2;exact h.2 i o n h1 h2
 ·rw [List.getElem?_append_right hge] at h1
  rw [List.getElem?_append_right (by rw [h.1];exact hge),h.1] at h2;exact h'.2 _ o n h1 h2
theorem BU {T:List Tm} {o:Option Tm} {n:Int} (h:Idn T o n):jL T [o] [n]:=(Bc T).snoc h
theorem FH {B g:Nat} {w wx w':World} {T1:List Tm} {S S1:Nat→Prop} {os1 os2:List (Option Tm)} {ns ms:List Int} {v v':Value} {k:Nat}
  (ho:wx.ownsRow w.heap.size 39 1 v os1.length (ns.map (Value.int .i64))) (hi1:jL T1 os1 ns) (hout:∀i,v.ownBlock=some i→¬ S1 i) (hi2:jL T1 os2 ms) (hk:Kp B w g T1 S S1 wx)
  (hown:w'.ownsRow w.heap.size 39 1 v' k (ns.map (Value.int .i64)++ms.map (Value.int .i64))) (hkk:k=os1.length+os2.length) (hgr:wx.grownBy w' v.ownBlock) (hor:v'.ownBlock=v.ownBlock∨v'.ownBlock=some wx.heap.size) :
  IdO w.heap.size w' T1 (os1++os2) v' S1∧Kp B w g T1 S S1 w':=by
 subst hkk;refine ⟨⟨⟨ns++ms,by simpa using hown,hi1.app hi2⟩,at_new hor hout hk.ar.sL⟩,hk.step hgr fun b e=>⟨(ho.lt b e).1,hout b e⟩⟩
def QL (B:Nat) (w:World) (g:Nat) (T:List Tm) (S:Nat→Prop) (o:Option Tm) (m:Nat) (e:Ending) (w':World):Prop :=
 ∃T' n S',e=.returned (.int .i64 n)∧Idn T' o n∧T <+: T'∧T'.length≤T.length+m∧Ar B w' g T' S'∧Grown S w S' w'
def R3 (B:Nat) (w:World) (g:Nat) (T:List Tm) (S:Nat→Prop) (os:List (Option Tm)) (m:Nat) (v:Value) (wx:World):Prop :=
 ∃T' S' A c,v=.slice A os.length c∧IdO w.heap.size wx T' os v S'∧T <+: T'∧T'.length≤T.length+m∧Kp B w g T' S S' wx
section
variable {B g : Nat} {w : World} {T : List Tm} {S : Nat → Prop}
theorem Kp.below_ {S0:Nat→Prop} {wx W:World} (h:Kp B w g T S0 S wx) (hb:Below wx.heap.size wx W):Kp B w g T S0 S W:=⟨h.ar.below hb,h.grown.trans (Grown.of_below hb)⟩
theorem Pj {x6 wx w7:World} {T9:List Tm} {S9:Nat→Prop} {os os2:List (Option Tm)} {ns ms:List Int} {A9 A7:Option Addr} {n9 c9 c7 k m:Nat}
  (h9:IdO w.heap.size x6 T9 os (.slice A9 n9 c9) S9∧T <+: T9∧T9.length≤T.length+m∧Ar B x6 g T9 S9∧Grown S w S9 x6) (hb:Below x6.heap.size x6 wx)
  (ho:wx.ownsRow w.heap.size 39 1 (.slice A9 n9 c9) os.length (ns.map (Value.int .i64))) (hid:jL T9 os ns) (hi2:jL T9 os2 ms)
  (hown:w7.ownsRow w.heap.size 39 1 (.slice A7 k c7) k (ns.map (Value.int .i64)++ms.map (Value.int .i64))) (hkk:k=os.length+os2.length) (hgr:wx.grownBy w7 (Value.slice A9 n9 c9).ownBlock) (hor:(Value.slice A7 k c7).ownBlock=(Value.slice A9 n9 c9).ownBlock∨(Value.slice A7 k c7).ownBlock=some wx.heap.size) :
  R3 B w g T S (os++os2) m (.slice A7 k c7) w7:=by
 obtain ⟨h1,h2,h3,h4,h5⟩:=h9;have hk:Kp B w g T9 S S9 wx:=Kp.below_ ⟨h4,h5⟩ hb;obtain ⟨h6,h7⟩:=FH ho hid h1.out hi2 hk hown hkk hgr hor;exact ⟨T9,S9,A7,c7,by rw [List.length_append,hkk],h6,h2,h3,h7⟩
theorem Sc {W W':World} {b:Nat} {t:TypeId} {cs:Array Value} (hb:b=W.heap.size) (h:Below (W.heap.size+1) (W.alloc (.cells cs t)) W'):Blk W' b t cs:=by
 subst hb;exact (Blk.new W t cs).below h (Nat.lt_succ_self _)
theorem lM.open2 {os:List (Option Tm)} {e:Ending} {w':World} (h:lM B w g T S os e w'):∃T' S' A c n ns,n=os.length∧e=.returned (.slice A n c)∧w'.ownsRow w.heap.size 39 1 (.slice A n c) n (ns.map (Value.int .i64))∧jL T' os ns∧T <+: T'∧T'.length≤T.length+os.length∧Ar B w' g T' S'∧Grown S w S' w':=by
 obtain ⟨T',S',A,c,h1,h2,h3,h4,h5,h6⟩:=h.open_;obtain ⟨ns,h7,h8⟩:=h2.ids;exact ⟨T',S',A,c,_,ns,rfl,h1,h7,h8,h3,h4,h5,h6⟩
end
theorem QE {w:World} {b base n:Nat} {e:TypeId} {cs:Array Value} {xs:List Value} (h:Blk w b e cs) (hb:base≤b) (hn:cs.size=n) (hm:n≤maxLen) (hx:cs.toList=xs):w.ownsRow base e 1 (.slice (some ⟨b,0,none⟩) n n) n xs:=by
 subst hx;refine ⟨by simpa using hn,.inr ⟨b,n,cs,rfl,hb,h,Nat.le_refl _,hm,by omega,?_⟩⟩;rw [List.take_of_length_le (by simp;omega)]
section
variable {B g : Nat} {w : World} {T : List Tm} {S : Nat → Prop}
theorem Ic (h:Use B w g T S) {W:World} (hb:Below w.heap.size w W) (ss:List ByteArray) (hz:∀s∈ss,s.size≤1000000) (hl:ss.length≤1000) (hT:T.length+ss.length≤1000000000) (b:Nat) (t:TypeId) (C:Array Value) (hC:C=(ss.map Value.string).toArray) (hB:Blk W b t C) (hbw:w.heap.size≤b) (n:Nat) (hn:n=ss.length) (os:List (Option Tm)) (ho:os=ss.map aO) :
  Calls Tryz.prog 185 #[.pointer (some ⟨g,0,none⟩),.slice (some ⟨b,0,none⟩) n n] W (lM B W g T S os):=by
 subst hC hn ho
 have hs:Sl b W 1 (some ⟨b,0,none⟩) ss.length (ss.map Value.string):=by
  refine ⟨by simp,fun _=>⟨_,rfl,Nat.le_refl _,hB.lt,fun j u hu=>?_⟩⟩;rw [bJ,hB.cell j];simpa using hu
 exact I7 (h.below hb) hs (fun i hi=>Nat.lt_of_lt_of_le (h.ar.sL i hi) hbw) hz hl hT
theorem O1 {W x6 wx w7:World} {T9:List Tm} {S9:Nat→Prop} {o:Option Tm} {os2:List (Option Tm)} {n:Int} {ms:List Int} {b k c7 m:Nat} {A7:Option Addr}
  (hb0:Below w.heap.size w W) (hG:Grown S W S9 x6) (hA:Ar B x6 g T9 S9) (hp:T <+: T9) (hl:T9.length≤T.length+m) (hb:Below x6.heap.size x6 wx) (hnb:¬ S9 b)
  (ho:wx.ownsRow w.heap.size 39 1 (.slice (some ⟨b,0,none⟩) 1 1) 1 [.int .i64 n]) (hi:Idn T9 o n) (hi2:jL T9 os2 ms)
  (hown:w7.ownsRow w.heap.size 39 1 (.slice A7 k c7) k ([Value.int .i64 n]++ms.map (Value.int .i64))) (hkk:k=1+os2.length) (hgr:wx.grownBy w7 (Value.slice (some ⟨b,0,none⟩) 1 1).ownBlock) (hor:(Value.slice A7 k c7).ownBlock=(Value.slice (some ⟨b,0,none⟩) 1 1).ownBlock∨(Value.slice A7 k c7).ownBlock=some wx.heap.size) :
  R3 B w g T S (o :: os2) m (.slice A7 k c7) w7:=by
 have hk:Kp B w g T9 S S9 wx:=Kp.below_ ⟨hA,(Grown.of_below hb0).trans hG⟩ hb;obtain ⟨h6,h7⟩:=FH (os1:=[o]) (ns:=[n]) (os2:=os2) (ms:=ms) (v':=.slice A7 k c7) ho (BU hi) (fun i hi=>by simp [Value.ownBlock] at hi;subst hi;exact hnb) hi2 hk hown hkk hgr hor;exact ⟨T9,S9,A7,c7,by rw [List.length_cons,hkk,Nat.add_comm],h6,hp,hl,h7⟩
theorem Be (h:Use B w g T S) {o p:Option Tm} {n nk:Int} {user service alg:ByteArray} (ho:Idn T o n) (hk:Idn T p nk) (hz1:user.size≤1000000) (hz2:service.size≤1000000) (hz3:alg.size≤1000000) (hT:T.length≤10000000) :
  Calls Tryz.prog 103 #[.pointer (some ⟨g,0,none⟩),.int .i64 n,.string user,.string service,.string alg,.int .i64 nk] w (QL B w g T S (RO o user service alg p) 8):=by
 have hSL:=h.ar.sL;have nS:∀i,w.heap.size≤i→¬ S i:=fun i h1 h2=>by have:=hSL i h2;omega
 have HD:=hide (fun (W:World) (hb:Below w.heap.size w W) (b:Nat) (hB:Blk W b 9 #[.string mO,.string user,.string service,.string mF,.string mJ,.string alg]) (hbw:w.heap.size≤b)=>Ic h hb [mO,user,service,mF,mJ,alg] (by
   intro s hs;simp only [List.mem_cons,List.not_mem_nil,or_false] at hs;rcases hs with rfl | rfl | rfl | rfl | rfl | rfl
   ·decide
   ·exact hz1
   ·exact hz2
   ·decide
   ·decide
   ·exact hz3) (by simp) (by simp;omega) b 9 #[.string mO,.string user,.string service,.string mF,.string mJ,.string alg] rfl hB hbw 6 rfl [aO mO,aO user,aO service,aO mF,aO mJ,aO alg] rfl)
 have hlen6:([aO mO,aO user,aO service,aO mF,aO mJ,aO alg]:List (Option Tm)).length=6:=rfl;obtain ⟨iI,hiI,hI0,hI1,hI2⟩:=info_parts yZ;have Hk:=hide hk;have Ho:=hide ho;have HU:=hide h;clear h ho hk;go_enter Tryz.func103,Tryz.ntmps103;go_upto_region 1 with fail;go_cut [13] (fun v wx=>R3 B w g T S [o,aO mO,aO user,aO service,aO mF,aO mJ,aO alg] 6 v wx)
 case first =>
  have hb2:Below w.heap.size w ((w.alloc (.cells #[.int .i64 n] 39)).alloc (.cells #[.string mO,.string user,.string service,.string mF,.string mJ,.string alg] 9)):=((Below.refl _ _).alloc (Nat.le_refl _) _).alloc (by simp) _;have HDD:=hide (HD.out _ hb2 (w.heap.size+1) (Sc (W:=(w.alloc (.cells #[.int .i64 n] 39))) (by simp) (Below.refl _ _)) (by omega));have hB0:Blk ((w.alloc (.cells #[.int .i64 n] 39)).alloc (.cells #[.string mO,.string user,.string service,.string mF,.string mJ,.string alg] 9)) w.heap.size 39 #[.int .i64 n]:=(Blk.new w _ _).alloc _;have hz2':w.heap.size<((w.alloc (.cells #[.int .i64 n] 39)).alloc (.cells #[.string mO,.string user,.string service,.string mF,.string mJ,.string alg] 9)).heap.size:=by simp;omega
  go_wp2_with (first
   | (go_at_call 185;go_loud (refine HDD.out.mono ?_;rintro e x6 hdp;obtain ⟨T9,S9,A9,c9,n9,ns9,hn9,rfl,ho9,hid9,hp9,hl9,hA9,hG9⟩:=hdp.open2;rw [hlen6] at hn9 hl9;subst hn9;have hb6:=hG9.outs_.blk hB0 (nS _ (Nat.le_refl _));have hw6:=QE (base:=w.heap.size) (n:=1) hb6 (Nat.le_refl _) rfl (show 1≤maxLen by unfold maxLen;omega) rfl))
   | (at_builtin;refine aA _ rfl (.tmp 15) (.tmp 21) _ rfl w.heap.size 39 iI (.int .i64 0) 1 8 Tryz.underlying124 hiI hI0 hI1 hI2 rfl (by decide) (.slice (some ⟨w.heap.size,0,none⟩) 1 1) 1 [.int .i64 n] rfl hw6 _ A9 6 c9 (ns9.map (Value.int .i64)) rfl (Reads.of_own ho9) (fun u hu=>by obtain ⟨x,_,rfl⟩:=List.mem_map.1 hu;rfl) (by unfold maxLen;omega) (by omega) (by have:=hG9.size;omega) ?_;intro v7 w7 hown7 hgr7 hor7;obtain ⟨A7,c7,rfl⟩:=gH hown7)
   | fail)
  all_goals go_meet
  all_goals exact O1 hb2 hG9 hA9 hp9 hl9 (Below.refl _ _) (fun hh=>by rcases hG9.new _ hh with h1 | h1;exact nS _ (Nat.le_refl _) h1;omega) hw6 (Ho.out.pre hp9) hid9 hown7 rfl hgr7 hor7
 case rest =>
  obtain ⟨wx,rfl⟩:∃wx:World,wx=wc:=⟨wc,rfl⟩
  obtain ⟨T5,S5,A5,c5,hv5,h5,hpre5,hlen5,hkp5⟩:=hcut;have hl7:([o,aO mO,aO user,aO service,aO mF,aO mJ,aO alg]:List (Option Tm)).length=7:=rfl;rw [hl7] at hv5;subst hv5;clear HD hlen6;have hg5:=hkp5.grown;have hsz5:=hg5.size;obtain ⟨ns5,ho5,hid5⟩:=h5.ids;rw [hl7] at ho5;have HL7:=hide hl7;have HO5:=hide (And.intro h5 (And.intro hpre5 (And.intro hlen5 (And.intro hkp5 hid5))));clear h5 hpre5 hlen5 hkp5 hid5 hl7 hg5
  go_wp2_with (first
   | (at_builtin;refine aA _ rfl (.tmp 24) (.tmp 26) _ rfl w.heap.size 39 iI (.int .i64 0) 1 8 Tryz.underlying124 hiI hI0 hI1 hI2 rfl (by decide) (.slice A5 7 c5) 7 (ns5.map (Value.int .i64)) rfl (ho5.alloc _) _ (some ⟨_,0,none⟩) 1 1 [.int .i64 nk] rfl (eQ (Blk.new _ _ _) rfl) (by simp [Value.oneCell']) (by unfold maxLen;omega) (by omega) (by simp;omega) ?_;intro v9 w9 hown9 hgr9 hor9;obtain ⟨A9,c9,rfl⟩:=gH hown9;obtain ⟨h8,hpre8,hlen8,hkp8,hid8⟩:=HO5.out;have hL9:=Pj (m:=6) (os2:=[p]) (ms:=[nk]) ⟨h8,hpre8,hlen8,hkp8.ar,hkp8.grown⟩ (aZ (.cells #[.int .i64 nk] 39)) (by rw [HL7.out];exact ho5.alloc _) hid8 (BU (Hk.out.pre hpre8)) hown9 (by rw [HL7.out];rfl) hgr9 hor9;obtain ⟨T9,S9,A9',c9',hv9,h9,hpre9,hlen9,hkp9⟩:=hL9;obtain ⟨ns9,ho9,hid9⟩:=h9.ids;have hl9:([o,aO mO,aO user,aO service,aO mF,aO mJ,aO alg]++[p]).length=8:=rfl;rw [hl9] at ho9;have hU9:Use B w9 g T9 S9:=HU.out.grown hkp9.grown hkp9.ar (by omega);have hn9:ns9.length=8:=hid9.1.trans hl9;have HLL:=hide (xN hU9 (zt hn9.symm ho9) (by omega));have HAR:=hide hid9.args;have HX9:=hide (And.intro h9 (And.intro hpre9 (And.intro hlen9 hkp9)));clear hid9 hU9 hn9 hl9 ho9 h9 hpre9 hlen9 hkp9 hv9 h8 hpre8 hlen8 hkp8 hid8 hgr9 hor9)
   | (go_at_call 179;refine HLL.out.mono ?_;rintro e w10 ⟨T10,n10,S10,rfl,hp10,hA10,hG10⟩)
   | fail)
  go_ret;obtain ⟨h9,hpre9,hlen9,hkp9⟩:=HX9.out;have hO:kX (List.map (arg T9) ns9)=RO o user service alg p:=by rw [HAR.out];rfl
  rw [hO] at hp10;exact ⟨T10,n10,S10,rfl,hp10.idn,hpre9.trans hp10.pre,by have:=hp10.len;omega,hA10,hkp9.grown.trans hG10⟩
theorem yg (h:Use B w g T S) {o:Option Tm} {n:Int} {user service alg:ByteArray} (ho:Idn T o n) (hz1:user.size≤1000000) (hz2:service.size≤1000000) (hz3:alg.size≤1000000) (who:Int) (hT:T.length≤1000000) :
  Calls Tryz.prog 56 #[.pointer (some ⟨g,0,none⟩),.int .i64 n,.string user,.string service,.string alg,.int .i64 who] w (QL B w g T S (kW o user service alg who) 11):=by
 have HK:=hide (uI h who);have H:=hide h;clear h;go_enter Tryz.func56,Tryz.ntmps56;go_wp2_with fail;refine HK.out.mono ?_;rintro e w1 ⟨T1,n1,S1,rfl,hp1,hA1,hG1⟩;have hl1:=hp1.len;have HU1:=hide (H.out.grown hG1 hA1 (by omega));have HP:=hide (uh HU1.out n1);rw [hp1.idn.1] at HP;have Hp:=hide hp1;clear hA1 hp1;go_wp2_with fail;refine HP.out.mono ?_;rintro e w2 ⟨T2,n2,S2,rfl,hp2,hA2,hG2⟩;have hl2:=hp2.len;have HU2:=hide (HU1.out.grown hG2 hA2 (by omega));have HR:=hide (Be HU2.out ((ho.pre Hp.out.pre).pre hp2.pre) hp2.idn hz1 hz2 hz3 (by omega));have Hp2:=hide hp2;clear hA2 hp2;go_wp2_with fail;refine HR.out.mono ?_;rintro e w3 ⟨T3,n3,S3,rfl,hi3,hp3,hl3,hA3,hG3⟩;have hU3:=HU2.out.grown hG3 hA3 (by omega);have HS:=hide (wh hU3 (s:=alg) (by omega) n1 n3);rw [hi3.1,((Hp.out.idn.pre Hp2.out.pre).pre hp3).1] at HS;have Hp3:=hide hp3;clear hU3 hA3 hi3 hp3;go_wp2_with fail;refine HS.out.mono ?_;rintro e w4 ⟨T4,n4,S4,rfl,hp4,hA4,hG4⟩;go_wp2_with fail;go_ret;exact ⟨T4,n4,S4,rfl,hp4.idn,Hp.out.pre.trans (Hp2.out.pre.trans (Hp3.out.trans hp4.pre)),by have:=hp4.len;omega,hA4,hG1.trans (hG2.trans (hG3.trans hG4))⟩
end
def Kl (S:Nat→Prop) (W:World) (s1:ByteArray) (k:Int) (s2:ByteArray) (v:Value):Prop :=
 (s2=⟨#[]⟩∧v=.nilIface)∨(s2.size≤1000∧(s2.toList == [])=false∧∃b1 b2,v=.iface 168 (.pointer (some ⟨b1,0,none⟩))∧Flt W b1 b2 s1 s2 k∧¬ S b1∧¬ S b2)
theorem Kl.below {S:Nat→Prop} {W W':World} {s1 s2:ByteArray} {k:Int} {v:Value} (h:Kl S W s1 k s2 v) (hb:Below W.heap.size W W'):Kl S W' s1 k s2 v:=by
 rcases h with h | ⟨h1,h2,b1,b2,h3,h4,h5⟩
 ·exact .inl h
 ·exact .inr ⟨h1,h2,b1,b2,h3,h4.below hb,h5⟩
structure Oh (W0 wr:World) (os:List (Option Tm)) (v:Value) (b:Nat) (t:TypeId) (cs:Array Value):Prop where
 bel:Below W0.heap.size W0 wr
 own:wr.ownsRow W0.heap.size 9 1 v os.length (((os.map txt).map bs).map Value.string)
 blk:Blk wr b t cs
 ne:v.ownBlock≠some b
section
variable {W0 wr wz : World} {os : List (Option Tm)} {v : Value} {b : Nat} {t : TypeId} {cs : Array Value}
theorem Oh.below (h:Oh W0 wr os v b t cs) (hb:Below wr.heap.size wr wz):Oh W0 wz os v b t cs :=
 ⟨h.bel.trans (hb.mono h.bel.size),h.own.kept (ai hb none) (by cases v.ownBlock <;> simp),h.blk.below hb h.blk.lt,h.ne⟩
theorem Oh.txs (h:Oh W0 wr os v b t cs):Txs wr v (os.map txt):=PU h.own (by simp)
end
section
variable {B b g p p0 N : Nat} {s : ByteArray} {T : List Tm} {S : Nat → Prop} {w w0 w1 w2 : World} {c : UInt8} {s1 : List UInt8}
theorem Got.term {e:Ending} {w':World} (h:Got B b g s p (p+1) T S w1 e w') (hG:Grown (SR b S) w (SR b S) w1) (hp:p+1≤s.size):nI B b g s p T S w e w':=by
 obtain ⟨T',n,S',p',o,h1,h2,h3,h4,h5,h6,h7,h8⟩:=h;exact ⟨T',n,S',p',o,h1,h2,h3,h4,hG.trans h5,h6,by omega,by omega⟩
theorem Got.from_ {q q':Nat} {e:Ending} {w':World} (h:Got B b g s p0 q' T S w1 e w') (hG:Grown (SR b S) w (SR b S) w1) (hp:q≤q'):Got B b g s p0 q T S w e w':=by
 obtain ⟨T',n,S',p',o,h1,h2,h3,h4,h5,h6,h7,h8⟩:=h;exact ⟨T',n,S',p',o,h1,h2,h3,h4,hG.trans h5,h6,by omega,by omega⟩
theorem fD (h:Rd B b g s p T S w) (hd:s.data.toList.drop p=c :: s.data.toList.drop (p+1)):Calls Tryz.prog 166 #[.pointer (some ⟨b,0,none⟩)] w (fun e w'=>e=.returned (.tuple #[.int .u8 c.toNat,.bool true])∧p+1≤s.size∧Rd B b g s (p+1) T S w'∧Grown (SR b S) w (SR b S) w'):=by
 refine (uX h).mono ?_;rintro e w' (⟨rfl,hpe,hR,hG⟩ | ⟨c2,hd2,hps,rfl,hR,hG⟩)
 ·rw [List.drop_of_length_le (by rw [aD];omega)] at hd
  cases hd
 ·rw [hd] at hd2
  injection hd2 with e1 _;exact ⟨by rw [e1],hps,hR,hG⟩
theorem Lf (h:Rd B b g s p T S w) (hpe:p=s.size) :
  Calls Tryz.prog 96 #[.pointer (some ⟨b,0,none⟩)] w (nI B b g s p T S w):=by
 have HB:=hide (fun (W:World) (hb:Below w.heap.size w W)=>uX (h.below hb));clear h;go_enter Tryz.func96,Tryz.ntmps96;go_wp2_with fail;have hb0:=aZ (w:=w) (.cells #[.pointer (some ⟨b,0,none⟩)] 176);refine (HB.out _ hb0).mono ?_;rintro e w1 (⟨rfl,hpe,hR,hG⟩ | ⟨c,hd,hps,rfl,hR,hG⟩)
 ·go_wp2_with fail
  go_ret
  exact ⟨T,-1,S,p,none,rfl,cu _,fE (by
   rw [List.drop_of_length_le (by rw [aD];omega)];intro t r ht e;have:=congrArg List.length e;have h1:1≤(enc t).length:=List.length_pos_iff.2 (yO t);simp at this
   omega),hR,(Grown.of_below hb0).trans hG,List.prefix_refl _,by omega,Nat.le_refl _⟩
 ·omega
theorem KJ (IH:dM B b g s N) (h:Rd B b g s p T S w) (hN:s.size - p<N+1) (hd:s.data.toList.drop p=c :: s.data.toList.drop (p+1)) (hq:c.toNat=244) :
  Calls Tryz.prog 96 #[.pointer (some ⟨b,0,none⟩)] w (nI B b g s p T S w):=by
 have HB:=hide (fun (W:World) (hb:Below w.heap.size w W)=>fD (h.below hb) hd);have HIH:=hide IH;have hsr:=h.sr_lt;have hK:=h.few;have hxn:¬ SR b S w.heap.size:=fun h9=>by have:=hsr _ h9;omega
 clear h IH hsr;rw [hq] at HB;go_enter Tryz.func96,Tryz.ntmps96;go_wp2_with fail;have hx0:=Blk.new w 176 #[.pointer (some ⟨b,0,none⟩)];have hb0:=aZ (w:=w) (.cells #[.pointer (some ⟨b,0,none⟩)] 176);refine (HB.out _ hb0).mono ?_;rintro e w1 ⟨rfl,hps,hR,hG⟩;have hx1:=hG.outs.blk hx0 hxn;have hG0:=(Grown.of_below (S:=SR b S) hb0).trans hG;have hxc:w1.cell? ⟨w.heap.size,0,none⟩=some (.pointer (some ⟨b,0,none⟩)):=hx1.cell 0
 obtain ⟨bx,hbx⟩:∃bx,bx=w.heap.size:=⟨_,rfl⟩
 rw [←hbx] at hx1 hxc hxn ⊢;clear hx0 hb0 hG HB hbx;have Hd:=hide hd;have hsz:=hR.hs;have hlen:=hR.len;clear hd;have HW:=hide (G6 HIH.out hR (by omega) hx1 hxn Hd.out hq TN (by omega) hK);clear hx1;go_wp2_with fail;refine HW.out.mono ?_;intro e w2 hg;have hF:=hide (hg.term hG0 hps);obtain ⟨T2,m,S2,p2,o2,rfl,_⟩:=hg;go_wp2_with fail;go_ret;exact hF.out
theorem LF (IH:dM B b g s N) (h:Rd B b g s p T S w) (hN:s.size - p<N+1) (hd:s.data.toList.drop p=c :: s.data.toList.drop (p+1)) (hq:c.toNat=247) :
  Calls Tryz.prog 96 #[.pointer (some ⟨b,0,none⟩)] w (nI B b g s p T S w):=by
 have HB:=hide (fun (W:World) (hb:Below w.heap.size w W)=>fD (h.below hb) hd);have HIH:=hide IH;have hsr:=h.sr_lt;have hK:=h.few;have hxn:¬ SR b S w.heap.size:=fun h9=>by have:=hsr _ h9;omega
 clear h IH hsr;rw [hq] at HB;go_enter Tryz.func96,Tryz.ntmps96;go_wp2_with fail;have hx0:=Blk.new w 176 #[.pointer (some ⟨b,0,none⟩)];have hb0:=aZ (w:=w) (.cells #[.pointer (some ⟨b,0,none⟩)] 176);refine (HB.out _ hb0).mono ?_;rintro e w1 ⟨rfl,hps,hR,hG⟩;have hx1:=hG.outs.blk hx0 hxn;have hG0:=(Grown.of_below (S:=SR b S) hb0).trans hG;have hxc:w1.cell? ⟨w.heap.size,0,none⟩=some (.pointer (some ⟨b,0,none⟩)):=hx1.cell 0
 obtain ⟨bx,hbx⟩:∃bx,bx=w.heap.size:=⟨_,rfl⟩
 rw [←hbx] at hx1 hxc hxn ⊢;clear hx0 hb0 hG HB hbx;have Hd:=hide hd;have hsz:=hR.hs;have hlen:=hR.len;clear hd;have HW:=hide (Ie HIH.out hR (by omega) hx1 hxn Hd.out hq Uq (by omega) hK);clear hx1;go_wp2_with fail;refine HW.out.mono ?_;intro e w2 hg;have hF:=hide (hg.term hG0 hps);obtain ⟨T2,m,S2,p2,o2,rfl,_⟩:=hg;go_wp2_with fail;go_ret;exact hF.out
theorem Lh (IH:dM B b g s N) (h:Rd B b g s p T S w) (hN:s.size - p<N+1) (hd:s.data.toList.drop p=c :: s.data.toList.drop (p+1)) (hq:c.toNat=245) :
  Calls Tryz.prog 96 #[.pointer (some ⟨b,0,none⟩)] w (nI B b g s p T S w):=by
 have HB:=hide (fun (W:World) (hb:Below w.heap.size w W)=>fD (h.below hb) hd);have HIH:=hide IH;have hsr:=h.sr_lt;have hK:=h.few;have hxn:¬ SR b S w.heap.size:=fun h9=>by have:=hsr _ h9;omega
 clear h IH hsr;rw [hq] at HB;go_enter Tryz.func96,Tryz.ntmps96;go_wp2_with fail;have hx0:=Blk.new w 176 #[.pointer (some ⟨b,0,none⟩)];have hb0:=aZ (w:=w) (.cells #[.pointer (some ⟨b,0,none⟩)] 176);refine (HB.out _ hb0).mono ?_;rintro e w1 ⟨rfl,hps,hR,hG⟩;have hx1:=hG.outs.blk hx0 hxn;have hG0:=(Grown.of_below (S:=SR b S) hb0).trans hG;have hxc:w1.cell? ⟨w.heap.size,0,none⟩=some (.pointer (some ⟨b,0,none⟩)):=hx1.cell 0
 obtain ⟨bx,hbx⟩:∃bx,bx=w.heap.size:=⟨_,rfl⟩
 rw [←hbx] at hx1 hxc hxn ⊢;clear hx0 hb0 hG HB hbx;have Hd:=hide hd;have hsz:=hR.hs;have hlen:=hR.len;clear hd;have HW:=hide (JY HIH.out hR (by omega) Hd.out hq hK);clear hx1;go_wp2_with fail;refine HW.out.mono ?_;intro e w2 hg;have hF:=hide (hg.term hG0 hps);obtain ⟨T2,m,S2,p2,o2,rfl,_⟩:=hg;go_wp2_with fail;go_ret;exact hF.out
theorem NM (IH:dM B b g s N) (h:Rd B b g s p T S w) (hN:s.size - p<N+1) (hd:s.data.toList.drop p=c :: s.data.toList.drop (p+1)) (hq:c.toNat=246) :
  Calls Tryz.prog 96 #[.pointer (some ⟨b,0,none⟩)] w (nI B b g s p T S w):=by
 have HB:=hide (fun (W:World) (hb:Below w.heap.size w W)=>fD (h.below hb) hd);have HIH:=hide IH;have hsr:=h.sr_lt;have hK:=h.few;have hxn:¬ SR b S w.heap.size:=fun h9=>by have:=hsr _ h9;omega
 clear h IH hsr;rw [hq] at HB;go_enter Tryz.func96,Tryz.ntmps96;go_wp2_with fail;have hx0:=Blk.new w 176 #[.pointer (some ⟨b,0,none⟩)];have hb0:=aZ (w:=w) (.cells #[.pointer (some ⟨b,0,none⟩)] 176);refine (HB.out _ hb0).mono ?_;rintro e w1 ⟨rfl,hps,hR,hG⟩;have hx1:=hG.outs.blk hx0 hxn;have hG0:=(Grown.of_below (S:=SR b S) hb0).trans hG;have hxc:w1.cell? ⟨w.heap.size,0,none⟩=some (.pointer (some ⟨b,0,none⟩)):=hx1.cell 0
 obtain ⟨bx,hbx⟩:∃bx,bx=w.heap.size:=⟨_,rfl⟩
 rw [←hbx] at hx1 hxc hxn ⊢;clear hx0 hb0 hG HB hbx;have Hd:=hide hd;have hsz:=hR.hs;have hlen:=hR.len;clear hd;have HW:=hide (uM hR);go_wp2_with fail;refine HW.out.mono ?_;rintro e w2 (⟨p1,rfl,hno,hR2,hG2,hle⟩ | ⟨n,hn,h5,rfl,hR2,hG2⟩)
 ·have hx2:=hG2.outs.blk hx1 hxn
  clear hx1;go_wp2_with fail;go_ret;exact ⟨T,-1,S,_,none,rfl,cu _,fE (by rw [Hd.out];exact no6 hq (by omega)),hR2.below (aZ _),(hG0.trans hG2).trans (Grown.of_below (aZ _)),List.prefix_refl _,by omega,by omega⟩
 ·have hx2:=hG2.outs.blk hx1 hxn
  have hH:Hed 6 0 0 (bs ((s.data.toList.drop (p+1+4)).take n)) 2 (s.data.toList.drop (p+1)) (s.data.toList.drop (p+1+4+n)):=by
   have:=TT (s1:=s.data.toList.drop (p+1)) (by omega) (by omega);rw [List.drop_drop,List.drop_drop,← hn] at this;rw [show p+1+4+n=p+1+(4+n) by omega];exact this
  have hxs:(bs ((s.data.toList.drop (p+1+4)).take n)).size≤1000000:=by
   show ((s.data.toList.drop (p+1+4)).take n).length≤1000000;rw [List.length_take,List.length_drop,aD];omega
  clear hn;generalize bs ((s.data.toList.drop (p+1+4)).take n)=x at hH hxs ⊢;have hR3:=hR2.below (aZ (.cells #[.string x] 9));have hx3:=hx2.below (aZ (.cells #[.string x] 9)) hx2.lt;have hy3:=Blk.new w2 9 #[.string x];have hyn:¬ SR b S w2.heap.size:=fun h9=>by have:=hR2.sr_lt _ h9;omega
  have HV:=hide (GD HIH.out hR3 (by omega) hx3 hxn hxs hy3 hyn Hd.out hq hH (by omega) hK);have hxc2:w2.cell? ⟨bx,0,none⟩=some (.pointer (some ⟨b,0,none⟩)):=hx2.cell 0;have hxc3:(w2.alloc (.cells #[.string x] 9)).cell? ⟨bx,0,none⟩=some (.pointer (some ⟨b,0,none⟩)):=hx3.cell 0;have hG3:=(hG0.trans hG2).trans (Grown.of_below (aZ (.cells #[.string x] 9)));clear hx1 hx2 hx3 hy3 hR3 hR2 hH hG2 hxc;go_wp2_with fail;refine HV.out.mono ?_;intro e w3 hg;have hF:=hide ((hg.from_ (q:=p+1) (Grown.refl _ _) (by omega)).term hG3 hps);obtain ⟨T2,m,S2,p2,o2,rfl,_⟩:=hg;go_wp2_with fail;go_ret;exact hF.out
theorem Nt (IH:dM B b g s N) (h:Rd B b g s p T S w) (hN:s.size - p<N+1) (hd:s.data.toList.drop p=c :: s.data.toList.drop (p+1)) (hq:c.toNat=248) :
  Calls Tryz.prog 96 #[.pointer (some ⟨b,0,none⟩)] w (nI B b g s p T S w):=by
 have HB:=hide (fun (W:World) (hb:Below w.heap.size w W)=>fD (h.below hb) hd);have HIH:=hide IH;have hsr:=h.sr_lt;have hK:=h.few;have hxn:¬ SR b S w.heap.size:=fun h9=>by have:=hsr _ h9;omega
 clear h IH hsr;rw [hq] at HB;go_enter Tryz.func96,Tryz.ntmps96;go_wp2_with fail;have hx0:=Blk.new w 176 #[.pointer (some ⟨b,0,none⟩)];have hb0:=aZ (w:=w) (.cells #[.pointer (some ⟨b,0,none⟩)] 176);refine (HB.out _ hb0).mono ?_;rintro e w1 ⟨rfl,hps,hR,hG⟩;have hx1:=hG.outs.blk hx0 hxn;have hG0:=(Grown.of_below (S:=SR b S) hb0).trans hG;have hxc:w1.cell? ⟨w.heap.size,0,none⟩=some (.pointer (some ⟨b,0,none⟩)):=hx1.cell 0
 obtain ⟨bx,hbx⟩:∃bx,bx=w.heap.size:=⟨_,rfl⟩
 rw [←hbx] at hx1 hxc hxn ⊢;clear hx0 hb0 hG HB hbx;have Hd:=hide hd;have hsz:=hR.hs;have hlen:=hR.len;clear hd;have HW:=hide (uX hR);go_wp2_with fail;refine HW.out.mono ?_;rintro e w2 (⟨rfl,hpe,hR2,hG2⟩ | ⟨c2,hd2,hps2,rfl,hR2,hG2⟩)
 ·have hx2:=hG2.outs.blk hx1 hxn
  clear hx1;go_wp2_with fail;go_ret;exact ⟨T,-1,S,_,none,rfl,cu _,fE (by rw [Hd.out];exact no8 hq (List.drop_of_length_le (by rw [aD];omega))),hR2.below (aZ _),(hG0.trans hG2).trans (Grown.of_below (aZ _)),List.prefix_refl _,by omega,by omega⟩
 ·have hx2:=hG2.outs.blk hx1 hxn
  have hH:Hed 8 0 c2.toNat eB 3 (s.data.toList.drop (p+1)) (s.data.toList.drop (p+1+1)):=by
   rw [hd2];exact TU
  have hcl2:=c2.toNat_lt;clear hd2;generalize c2.toNat=x at hH hcl2 ⊢;have hR3:=hR2.below (aZ (.cells #[.int .u8 (x:Nat)] 5));have hx3:=hx2.below (aZ (.cells #[.int .u8 (x:Nat)] 5)) hx2.lt;have hy3:=Blk.new w2 5 #[.int .u8 (x:Nat)];have hyn:¬ SR b S w2.heap.size:=fun h9=>by have:=hR2.sr_lt _ h9;omega
  have HV:=hide (Iw HIH.out hR3 (by omega) hx3 hxn hcl2 hy3 hyn Hd.out hq hH (by omega) hK);have hxc2:w2.cell? ⟨bx,0,none⟩=some (.pointer (some ⟨b,0,none⟩)):=hx2.cell 0;have hxc3:(w2.alloc (.cells #[.int .u8 (x:Nat)] 5)).cell? ⟨bx,0,none⟩=some (.pointer (some ⟨b,0,none⟩)):=hx3.cell 0;have hG3:=(hG0.trans hG2).trans (Grown.of_below (aZ (.cells #[.int .u8 (x:Nat)] 5)));clear hx1 hx2 hx3 hy3 hR3 hR2 hH hG2 hxc;go_wp2_with fail;refine HV.out.mono ?_;intro e w3 hg;have hF:=hide ((hg.from_ (q:=p+1) (Grown.refl _ _) (by omega)).term hG3 hps);obtain ⟨T2,m,S2,p2,o2,rfl,_⟩:=hg;go_wp2_with fail;go_ret;exact hF.out
theorem LC (IH:dM B b g s N) (h:Rd B b g s p T S w) (hN:s.size - p<N+1) (hd:s.data.toList.drop p=c :: s.data.toList.drop (p+1)) (hq:c.toNat=249) :
  Calls Tryz.prog 96 #[.pointer (some ⟨b,0,none⟩)] w (nI B b g s p T S w):=by
 have HB:=hide (fun (W:World) (hb:Below w.heap.size w W)=>fD (h.below hb) hd);have HIH:=hide IH;have hsr:=h.sr_lt;have hK:=h.few;have hxn:¬ SR b S w.heap.size:=fun h9=>by have:=hsr _ h9;omega
 clear h IH hsr;rw [hq] at HB;go_enter Tryz.func96,Tryz.ntmps96;go_wp2_with fail;have hx0:=Blk.new w 176 #[.pointer (some ⟨b,0,none⟩)];have hb0:=aZ (w:=w) (.cells #[.pointer (some ⟨b,0,none⟩)] 176);refine (HB.out _ hb0).mono ?_;rintro e w1 ⟨rfl,hps,hR,hG⟩;have hx1:=hG.outs.blk hx0 hxn;have hG0:=(Grown.of_below (S:=SR b S) hb0).trans hG;have hxc:w1.cell? ⟨w.heap.size,0,none⟩=some (.pointer (some ⟨b,0,none⟩)):=hx1.cell 0
 obtain ⟨bx,hbx⟩:∃bx,bx=w.heap.size:=⟨_,rfl⟩
 rw [←hbx] at hx1 hxc hxn ⊢;clear hx0 hb0 hG HB hbx;have Hd:=hide hd;have hsz:=hR.hs;have hlen:=hR.len;clear hd;have HW:=hide (oL hR);go_wp2_with fail;refine HW.out.mono ?_;rintro e w2 (⟨rfl,hno,hR2,hG2⟩ | ⟨h4,rfl,hR2,hG2⟩)
 ·have hx2:=hG2.outs.blk hx1 hxn
  clear hx1;go_wp2_with fail;go_ret;exact ⟨T,-1,S,_,none,rfl,cu _,fE (by rw [Hd.out];exact no9 hq (by omega)),hR2.below (aZ _),(hG0.trans hG2).trans (Grown.of_below (aZ _)),List.prefix_refl _,by omega,by omega⟩
 ·have hx2:=hG2.outs.blk hx1 hxn
  have hH:Hed 9 0 (n4 (s.data.toList.drop (p+1))) eB 2 (s.data.toList.drop (p+1)) (s.data.toList.drop (p+1+4)):=by
   have:=TR (s1:=s.data.toList.drop (p+1)) (by omega);rw [List.drop_drop] at this;exact this
  have hxl:=jT (s.data.toList.drop (p+1));generalize n4 (s.data.toList.drop (p+1))=x at hH hxl ⊢;have hR3:=hR2.below (aZ (.cells #[.int .i64 (x:Nat)] 3));have hx3:=hx2.below (aZ (.cells #[.int .i64 (x:Nat)] 3)) hx2.lt;have hy3:=Blk.new w2 3 #[.int .i64 (x:Nat)];have hyn:¬ SR b S w2.heap.size:=fun h9=>by have:=hR2.sr_lt _ h9;omega
  have HV:=hide (H7 HIH.out hR3 (by omega) hx3 hxn hxl hy3 hyn Hd.out hq hH (by omega) hK);have hxc2:w2.cell? ⟨bx,0,none⟩=some (.pointer (some ⟨b,0,none⟩)):=hx2.cell 0;have hxc3:(w2.alloc (.cells #[.int .i64 (x:Nat)] 3)).cell? ⟨bx,0,none⟩=some (.pointer (some ⟨b,0,none⟩)):=hx3.cell 0;have hG3:=(hG0.trans hG2).trans (Grown.of_below (aZ (.cells #[.int .i64 (x:Nat)] 3)));clear hx1 hx2 hx3 hy3 hR3 hR2 hH hG2 hxc;go_wp2_with fail;refine HV.out.mono ?_;intro e w3 hg;have hF:=hide ((hg.from_ (q:=p+1) (Grown.refl _ _) (by omega)).term hG3 hps);obtain ⟨T2,m,S2,p2,o2,rfl,_⟩:=hg;go_wp2_with fail;go_ret;exact hF.out
theorem Mc (IH:dM B b g s N) (h:Rd B b g s p T S w) (hN:s.size - p<N+1) (hd:s.data.toList.drop p=c :: s.data.toList.drop (p+1)) (hq:c.toNat=250) :
  Calls Tryz.prog 96 #[.pointer (some ⟨b,0,none⟩)] w (nI B b g s p T S w):=by
 have HB:=hide (fun (W:World) (hb:Below w.heap.size w W)=>fD (h.below hb) hd);have HIH:=hide IH;have hsr:=h.sr_lt;have hK:=h.few;have hxn:¬ SR b S w.heap.size:=fun h9=>by have:=hsr _ h9;omega
 clear h IH hsr;rw [hq] at HB;go_enter Tryz.func96,Tryz.ntmps96;go_wp2_with fail;have hx0:=Blk.new w 176 #[.pointer (some ⟨b,0,none⟩)];have hb0:=aZ (w:=w) (.cells #[.pointer (some ⟨b,0,none⟩)] 176);refine (HB.out _ hb0).mono ?_;rintro e w1 ⟨rfl,hps,hR,hG⟩;have hx1:=hG.outs.blk hx0 hxn;have hG0:=(Grown.of_below (S:=SR b S) hb0).trans hG;have hxc:w1.cell? ⟨w.heap.size,0,none⟩=some (.pointer (some ⟨b,0,none⟩)):=hx1.cell 0
 obtain ⟨bx,hbx⟩:∃bx,bx=w.heap.size:=⟨_,rfl⟩
 rw [←hbx] at hx1 hxc hxn ⊢;clear hx0 hb0 hG HB hbx;have Hd:=hide hd;have hsz:=hR.hs;have hlen:=hR.len;clear hd
 by_cases h4:s.size<p+1+4
 ·have HC:=hide (rq hR 32 h4)
  clear hx1;go_wp2_with fail;refine HC.out.mono ?_;rintro e w2 ⟨p1,rfl,hR2,hG2,hle⟩;go_wp2_with fail;go_ret;exact ⟨T,-1,S,p1,none,rfl,cu _,fE (by rw [Hd.out];exact Ul hq (by omega)),hR2,hG0.trans hG2,List.prefix_refl _,by omega,by omega⟩
 ·obtain ⟨m,hm⟩:∃m,m=n4 (s.data.toList.drop (p+1)):=⟨_,rfl⟩
  have hH:Hed 10 0 0 eB m (s.data.toList.drop (p+1)) (s.data.toList.drop (p+1+4)):=by
   have:=Tu (s1:=s.data.toList.drop (p+1)) (by omega);rw [List.drop_drop,← hm] at this;exact this
  by_cases hm8:(32:Int)<(m:Int)
  ·have HC:=hide (qR hR 32 (by omega) hm hm8)
   clear hx1 hm;go_wp2_with fail;refine HC.out.mono ?_;rintro e w2 ⟨p1,rfl,hR2,hG2,hle⟩;go_wp2_with fail;go_ret;exact ⟨T,-1,S,p1,none,rfl,cu _,fE (by rw [Hd.out];exact hH.nohd hq (fun hh=>by simp only [hd] at hh;omega)),hR2,hG0.trans hG2,List.prefix_refl _,by omega,by omega⟩
  ·have HC:=hide (qU HIH.out hR (by omega) 32 (by omega) hm (by omega) (by omega))
   have HH:=hide hH;clear hH hm;go_wp2_with fail;refine HC.out.mono ?_;rintro e w2 (⟨T1,S1,p1,rfl,hNo,hR2,hG2,hpre,hl,hle⟩ | ⟨T1,S1,p1,l,A,cz,rfl,hg,hml,he,hI,hR2,hG2,hpre,hl,hle⟩)
   ·clear hx1
    go_wp2_with fail;go_ret;exact ⟨T1,-1,S1,p1,none,rfl,cu _,p9 Hd.out hq HH.out hNo,hR2,hG0.trans hG2,hpre,by omega,by omega⟩
   ·have hxc2:w2.cell? ⟨bx,0,none⟩=some (.pointer (some ⟨b,0,none⟩)):=(hG2.outs.blk hx1 hxn).cell 0
    have hbc2:=jh hR2;obtain ⟨ns,hids,hidn⟩:=hI.ids_;have hargs:=hidn.args;have hnl:=hidn.1;have HL:=hide (xN hR2.use hids (by simp at hnl;omega));rw [hargs] at HL;have HF:=hide (fun (e:Ending) (w3:World) hD=>lV (e:=e) (w2:=w3) (w:=w1) (p:=p+1+4) Hd.out hq (by omega) HH.out hg hml he hR2 hG2 hpre hl hle (Cv l (by omega)) hD (by omega) hK);clear hx1 hR2 hI hids hidn hargs hnl hxc hG2;go_wp2_with fail;refine HL.out.mono ?_;intro e w3 hD;have hF:=hide (((HF.out e w3 hD).from_ (q:=p+1) (Grown.refl _ _) (by omega)).term hG0 hps);obtain ⟨T2,m2,S2,rfl,_⟩:=hD;go_wp2_with fail;go_ret;exact hF.out
theorem LJ (IH:dM B b g s N) (h:Rd B b g s p T S w) (hN:s.size - p<N+1) (hd:s.data.toList.drop p=c :: s.data.toList.drop (p+1)) (hq:c.toNat=241) :
  Calls Tryz.prog 96 #[.pointer (some ⟨b,0,none⟩)] w (nI B b g s p T S w):=by
 have HB:=hide (fun (W:World) (hb:Below w.heap.size w W)=>fD (h.below hb) hd);have HIH:=hide IH;have hsr:=h.sr_lt;have hK:=h.few;have hxn:¬ SR b S w.heap.size:=fun h9=>by have:=hsr _ h9;omega
 clear h IH hsr;rw [hq] at HB;go_enter Tryz.func96,Tryz.ntmps96;go_wp2_with fail;have hx0:=Blk.new w 176 #[.pointer (some ⟨b,0,none⟩)];have hb0:=aZ (w:=w) (.cells #[.pointer (some ⟨b,0,none⟩)] 176);refine (HB.out _ hb0).mono ?_;rintro e w1 ⟨rfl,hps,hR,hG⟩;have hx1:=hG.outs.blk hx0 hxn;have hG0:=(Grown.of_below (S:=SR b S) hb0).trans hG;have hxc:w1.cell? ⟨w.heap.size,0,none⟩=some (.pointer (some ⟨b,0,none⟩)):=hx1.cell 0
 obtain ⟨bx,hbx⟩:∃bx,bx=w.heap.size:=⟨_,rfl⟩
 rw [←hbx] at hx1 hxc hxn ⊢;clear hx0 hb0 hG HB hbx;have Hd:=hide hd;have hsz:=hR.hs;have hlen:=hR.len;clear hd;have HW:=hide (IC hR Hd.out hq hK);clear hx1;go_wp2_with fail;refine HW.out.mono ?_;intro e w2 hg;have hF:=hide (hg.term hG0 hps);obtain ⟨T2,m,S2,p2,o2,rfl,_⟩:=hg;go_wp2_with fail;go_ret;exact hF.out
theorem La (IH:dM B b g s N) (h:Rd B b g s p T S w) (hN:s.size - p<N+1) (hd:s.data.toList.drop p=c :: s.data.toList.drop (p+1)) (hq:c.toNat=242) :
  Calls Tryz.prog 96 #[.pointer (some ⟨b,0,none⟩)] w (nI B b g s p T S w):=by
 have HB:=hide (fun (W:World) (hb:Below w.heap.size w W)=>fD (h.below hb) hd);have HIH:=hide IH;have hsr:=h.sr_lt;have hK:=h.few;have hxn:¬ SR b S w.heap.size:=fun h9=>by have:=hsr _ h9;omega
 clear h IH hsr;rw [hq] at HB;go_enter Tryz.func96,Tryz.ntmps96;go_wp2_with fail;have hx0:=Blk.new w 176 #[.pointer (some ⟨b,0,none⟩)];have hb0:=aZ (w:=w) (.cells #[.pointer (some ⟨b,0,none⟩)] 176);refine (HB.out _ hb0).mono ?_;rintro e w1 ⟨rfl,hps,hR,hG⟩;have hx1:=hG.outs.blk hx0 hxn;have hG0:=(Grown.of_below (S:=SR b S) hb0).trans hG;have hxc:w1.cell? ⟨w.heap.size,0,none⟩=some (.pointer (some ⟨b,0,none⟩)):=hx1.cell 0
 obtain ⟨bx,hbx⟩:∃bx,bx=w.heap.size:=⟨_,rfl⟩
 rw [←hbx] at hx1 hxc hxn ⊢;clear hx0 hb0 hG HB hbx;have Hd:=hide hd;have hsz:=hR.hs;have hlen:=hR.len;clear hd;have HW:=hide (D6 hR Hd.out hq hK);clear hx1;go_wp2_with fail;refine HW.out.mono ?_;intro e w2 hg;have hF:=hide (hg.term hG0 hps);obtain ⟨T2,m,S2,p2,o2,rfl,_⟩:=hg;go_wp2_with fail;go_ret;exact hF.out
theorem KG (IH:dM B b g s N) (h:Rd B b g s p T S w) (hN:s.size - p<N+1) (hd:s.data.toList.drop p=c :: s.data.toList.drop (p+1)) (hq:c.toNat=243) :
  Calls Tryz.prog 96 #[.pointer (some ⟨b,0,none⟩)] w (nI B b g s p T S w):=by
 have HB:=hide (fun (W:World) (hb:Below w.heap.size w W)=>fD (h.below hb) hd);have HIH:=hide IH;have hsr:=h.sr_lt;have hK:=h.few;have hxn:¬ SR b S w.heap.size:=fun h9=>by have:=hsr _ h9;omega
 clear h IH hsr;rw [hq] at HB;go_enter Tryz.func96,Tryz.ntmps96;go_wp2_with fail;have hx0:=Blk.new w 176 #[.pointer (some ⟨b,0,none⟩)];have hb0:=aZ (w:=w) (.cells #[.pointer (some ⟨b,0,none⟩)] 176);refine (HB.out _ hb0).mono ?_;rintro e w1 ⟨rfl,hps,hR,hG⟩;have hx1:=hG.outs.blk hx0 hxn;have hG0:=(Grown.of_below (S:=SR b S) hb0).trans hG;have hxc:w1.cell? ⟨w.heap.size,0,none⟩=some (.pointer (some ⟨b,0,none⟩)):=hx1.cell 0
 obtain ⟨bx,hbx⟩:∃bx,bx=w.heap.size:=⟨_,rfl⟩
 rw [←hbx] at hx1 hxc hxn ⊢;clear hx0 hb0 hG HB hbx;have Hd:=hide hd;have hsz:=hR.hs;have hlen:=hR.len;clear hd;have HW:=hide (NI hR Hd.out hq hK);clear hx1;go_wp2_with fail;refine HW.out.mono ?_;intro e w2 hg;have hF:=hide (hg.term hG0 hps);obtain ⟨T2,m,S2,p2,o2,rfl,_⟩:=hg;go_wp2_with fail;go_ret;exact hF.out
end
theorem Mh {x:Int} (h1:-9223372036854775808≤x) (h2:x<9223372036854775808):wrap64 x=x:=by
 unfold wrap64;omega
theorem Tc {q:Nat} (h:q<256):wrap64 (q:Int)=q:=Mh (by omega) (by omega)
theorem TI {q:Nat} (h:q<256):wrap64 ((q:Int) - 240)=(q:Int) - 240:=Mh (by omega) (by omega)
section
variable {B b g p p0 N : Nat} {s : ByteArray} {T : List Tm} {S : Nat → Prop} {w w0 w1 w2 : World} {c : UInt8} {s1 : List UInt8}
theorem Du (IH:dM B b g s N) (h:Rd B b g s p T S w) (hN:s.size - p<N+1) (hd:s.data.toList.drop p=c :: s.data.toList.drop (p+1)) {q:Nat} (hq:q=c.toNat) (k241:¬ q=241) (k242:¬ q=242) (k243:¬ q=243) (k244:¬ q=244) (k245:¬ q=245) (k246:¬ q=246) (k247:¬ q=247) (k248:¬ q=248) (k249:¬ q=249) (k250:¬ q=250) :
  Calls Tryz.prog 96 #[.pointer (some ⟨b,0,none⟩)] w (nI B b g s p T S w):=by
 have HB:=hide (fun (W:World) (hb:Below w.heap.size w W)=>fD (h.below hb) hd);have HIH:=hide IH;have hsr:=h.sr_lt;have hK:=h.few;have hxn:¬ SR b S w.heap.size:=fun h9=>by have:=hsr _ h9;omega
 clear h IH hsr;have hcl:=c.toNat_lt;rw [←hq] at HB;go_enter Tryz.func96,Tryz.ntmps96;go_wp2_with fail;have hx0:=Blk.new w 176 #[.pointer (some ⟨b,0,none⟩)];have hb0:=aZ (w:=w) (.cells #[.pointer (some ⟨b,0,none⟩)] 176);refine (HB.out _ hb0).mono ?_;rintro e w1 ⟨rfl,hps,hR,hG⟩;have hx1:=hG.outs.blk hx0 hxn;have hG0:=(Grown.of_below (S:=SR b S) hb0).trans hG;have hxc:w1.cell? ⟨w.heap.size,0,none⟩=some (.pointer (some ⟨b,0,none⟩)):=hx1.cell 0
 obtain ⟨bx,hbx⟩:∃bx,bx=w.heap.size:=⟨_,rfl⟩
 rw [←hbx] at hx1 hxc hxn ⊢;clear hx0 hb0 hG HB hbx;have Hd:=hide hd;have hsz:=hR.hs;have hlen:=hR.len;clear hd;have f4:((q:Int) - 240 == 4)=false:=by simp only [beq_eq_false_iff_ne,ne_eq];omega
 have f5:((q:Int) - 240 == 5)=false:=by simp only [beq_eq_false_iff_ne,ne_eq];omega
 have f6:((q:Int) - 240 == 6)=false:=by simp only [beq_eq_false_iff_ne,ne_eq];omega
 have f7:((q:Int) - 240 == 7)=false:=by simp only [beq_eq_false_iff_ne,ne_eq];omega
 have f8:((q:Int) - 240 == 8)=false:=by simp only [beq_eq_false_iff_ne,ne_eq];omega
 have f9:((q:Int) - 240 == 9)=false:=by simp only [beq_eq_false_iff_ne,ne_eq];omega
 have f10:((q:Int) - 240 == 10)=false:=by simp only [beq_eq_false_iff_ne,ne_eq];omega
 have HW:=hide (EP hR ((q:Int) - 240) (by omega) (by omega) (by omega) (by rw [Hd.out];exact NZ (by omega)));have h256:q<256:=by rw [hq];exact hcl
 have wq:wrap64 (q:Int)=q:=Tc h256;have wr:wrap64 ((q:Int) - 240)=(q:Int) - 240:=TI h256;clear hx1 hq hcl;go_upto_region 5 with fail;go_wp2_with fail;refine HW.out.mono ?_;intro e w2 hg;have hF:=hide (hg.term hG0 hps);obtain ⟨T2,m,S2,p2,o2,rfl,_⟩:=hg;go_wp2_with fail;go_ret;exact hF.out
theorem Ka (IH:dM B b g s N) (h:Rd B b g s p T S w) (hN:s.size - p<N+1) :
  Calls Tryz.prog 96 #[.pointer (some ⟨b,0,none⟩)] w (nI B b g s p T S w):=by
 by_cases hlt:p<s.size
 ·have hd:=kg (s:=s.data.toList) (p:=p) hlt
  generalize s.data.toList[p]'hlt=c at hd
  by_cases k241:c.toNat=241
  ·exact LJ IH h hN hd k241
  by_cases k242:c.toNat=242
  ·exact La IH h hN hd k242
  by_cases k243:c.toNat=243
  ·exact KG IH h hN hd k243
  by_cases k244:c.toNat=244
  ·exact KJ IH h hN hd k244
  by_cases k245:c.toNat=245
  ·exact Lh IH h hN hd k245
  by_cases k246:c.toNat=246
  ·exact NM IH h hN hd k246
  by_cases k247:c.toNat=247
  ·exact LF IH h hN hd k247
  by_cases k248:c.toNat=248
  ·exact Nt IH h hN hd k248
  by_cases k249:c.toNat=249
  ·exact LC IH h hN hd k249
  by_cases k250:c.toNat=250
  ·exact Mc IH h hN hd k250
  exact Du IH h hN hd rfl k241 k242 k243 k244 k245 k246 k247 k248 k249 k250
 ·exact Lf h (by have:=h.hp;omega)
theorem MW (b g B:Nat) (s:ByteArray):∀N,dM B b g s N:=by
 intro N
 induction N with
 | zero=>exact fun p T S w h=>absurd h (by omega)
 | succ N ih=>exact fun p T S w hN h=>Ka ih h hN
end
def Ui (B:Nat) (w:World) (g:Nat) (s:ByteArray) (T:List Tm) (S:Nat→Prop) (e:Ending) (w':World):Prop :=
 ∃T' S' n k o,e=.returned (.tuple #[.int .i64 n,.int .i64 k])∧Idn T' o n∧((∃t,o=some t∧good t∧s.data.toList=enc t∧k=0)∨(o=none∧k=3∧∀t,good t→s.data.toList≠enc t))∧Ar B w' g T' S'∧Grown S w S' w'∧T <+: T'∧T'.length≤T.length+2*s.size
theorem Af {s:ByteArray} {o:Option Tm} {p':Nat} (h:rf s 0 o p') (hp:p'≤s.size):(∃t,o=some t∧p'=s.size∧good t∧s.data.toList=enc t)∨((o=none∨p'≠s.size)∧∀t,good t→s.data.toList≠enc t):=by
 rcases h with ⟨rfl,h⟩ | ⟨t,rfl,h1,h2⟩
 ·exact .inr ⟨.inl rfl,fun t ht e=>h t [] ht (by rw [List.drop_zero,e,List.append_nil])⟩
 ·rw [List.drop_zero] at h2
  by_cases hs:p'=s.size
  ·refine .inl ⟨t,rfl,hs,h1,?_⟩
   rw [h2,List.drop_of_length_le (by rw [aD];omega),List.append_nil]
  ·refine .inr ⟨.inr hs,fun u hu e=>?_⟩
   have h3:enc t++s.data.toList.drop p'=enc u++[]:=by rw [←h2,e,List.append_nil]
   have h4:=congrArg List.length (yS t u _ _ h1 hu h3).2;rw [List.length_drop,aD] at h4;simp at h4;omega
section
variable {B g : Nat} {s : ByteArray} {T : List Tm} {S : Nat → Prop} {w : World}
theorem ER (h:Use B w g T S) (hs:s.size≤131072) (hT:T.length≤800000000):Calls Tryz.prog 50 #[.pointer (some ⟨g,0,none⟩),.string s] w (Ui B w g s T S):=by
 have hR:Rd B w.heap.size g s 0 T S (w.alloc (.cells #[.pointer (some ⟨g,0,none⟩),.string s,.int .i64 0] 178)) :=
  ⟨h.below (aZ _),Blk.new _ _ _,fun h9=>by have:=h.ar.sL _ h9;omega,h.base,Nat.zero_le _,hs,by omega⟩
 have HT:=hide (MW w.heap.size g B s (s.size+1) 0 T S _ (by omega) hR);have hS:=h.ar.sL;have hle:¬ (131072:Int)<s.size:=by omega
 clear h hR;go_enter Tryz.func50,Tryz.ntmps50;go_wp2_with fail;refine HT.out.mono ?_;rintro e w1 ⟨T',n,S',p',o,rfl,hid,hrd,hR,hG,hpre,hl,hle⟩;have hw:=Af hrd hR.hp;have hp:=hR.hp;have hc2:w1.cell? ⟨w.heap.size,2,none⟩=some (.int .i64 p'):=Blk.cell hR.bk 2
 have hG2:Grown S w S' w1:=by
  have h2:=(Grown.of_below (S:=SR w.heap.size S) (aZ (w:=w) (.cells #[.pointer (some ⟨g,0,none⟩),.string s,.int .i64 0] 178))).trans hG;have hnb:=hR.nb;refine ⟨h2.os,h2.tape,h2.output,h2.size,fun i hi hn=>h2.block i hi (fun h3=>?_),fun i hi=>?_,fun i hi=>?_⟩
  ·rcases h3 with h3 | h3
   ·exact hn h3
   ·omega
  ·rcases h2.sub i (.inl hi) with h3 | h3
   ·exact h3
   ·have:=hS i hi;omega
  ·rcases h2.new i (.inl hi) with h3 | h3
   ·rcases h3 with h3 | h3
    ·exact .inl h3
    ·exact absurd (h3 ▸ hi) hnb
   ·exact .inr h3
 have hA:=hR.use.ar;have HA:=hide hA;clear hR hG HT hA;rcases hw with ⟨t,rfl,rfl,ht,he⟩ | ⟨hor,hno⟩
 ·have hn1:¬ n=-1:=fun h9=>by have:=hid.none_iff.1 h9;cases this
  go_wp2_with fail;go_ret2;exact ⟨T',S',n,0,some t,rfl,hid,.inl ⟨t,rfl,ht,he,rfl⟩,HA.out,hG2,hpre,by omega⟩
 ·have hne:n=-1∨¬ n=-1∧¬ (p':Int)=s.size:=by
   by_cases h9:n=-1
   ·exact .inl h9
   ·refine .inr ⟨h9,fun h10=>?_⟩
    rcases hor with rfl | h11
    ·exact h9 (hid.2 rfl)
    ·omega
  rcases hne with rfl | ⟨hn1,hne⟩
  ·go_wp2_with fail
   go_ret2;exact ⟨T',S',-1,3,none,rfl,cu _,.inr ⟨rfl,rfl,hno⟩,HA.out,hG2,hpre,by omega⟩
  ·go_wp2_with fail
   go_ret2;exact ⟨T',S',-1,3,none,rfl,cu _,.inr ⟨rfl,rfl,hno⟩,HA.out,hG2,hpre,by omega⟩
end
section
variable {B g mb : Nat} {w w' : World} {T : List Tm} {S R : Nat → Prop} {nv sv : Value} {rows : List (List Value)} {D : DataW Unit}
theorem Ar.apart (h:Ar B w g T S) (ho:cK R w w') (hd:∀i,S i→¬ R i):Ar B w' g T S:=by
 obtain ⟨nv,sv,mb,rows,D,h⟩:=h;refine ⟨nv,sv,mb,rows,D,h.ok,ho.blk h.blk (hd _ h.sg),ho.own h.nodes (fun i hi=>hd i (h.sn i hi)),h.nrows,fun i t us hi hu=>?_,ho.own h.sizes (fun i hi=>hd i (h.ss i hi)),?_,h.idx,h.sg,h.sm,h.sn,h.ss,h.sB,fun i hi=>Nat.lt_of_lt_of_le (h.sL i hi) ho.size⟩
 ·obtain ⟨av,js,e,ha,hown,hs⟩:=h.node i t us hi hu
  exact ⟨av,js,e,ha,ho.own hown (fun i hi=>hd i (hs i hi)),hs⟩
 ·obtain ⟨es,clock,hb,hr⟩:=h.map
  exact ⟨es,clock,(ho.block mb (h.sL mb h.sm) (hd mb h.sm)).trans hb,hr⟩
end
structure Duo (w:World) (Ba ga:Nat) (Ta:List Tm) (Sa:Nat→Prop) (Bb gb:Nat) (Tb:List Tm) (Sb:Nat→Prop) (W:World):Prop where
 tab:Tab w
 bel:Below w.heap.size w W
 a1:Ar Ba W ga Ta Sa
 a2:Ar Bb W gb Tb Sb
 b1:w.heap.size≤Ba
 b2:w.heap.size≤Bb
 c1:Ba≤W.heap.size
 c2:Bb≤W.heap.size
 d:∀i,Sa i→¬ Sb i
 f1:Ta.length≤1000000000
 f2:Tb.length≤1000000000
section
variable {Ba ga Bb gb : Nat} {w W W' : World} {Ta Ta' Tb Tb' : List Tm} {Sa Sa' Sb Sb' : Nat → Prop}
theorem Duo.below (h:Duo w Ba ga Ta Sa Bb gb Tb Sb W) (hb:Below W.heap.size W W'):Duo w Ba ga Ta Sa Bb gb Tb Sb W' :=
 ⟨h.tab,h.bel.trans (hb.mono h.bel.size),h.a1.below hb,h.a2.below hb,h.b1,h.b2,Nat.le_trans h.c1 hb.size,Nat.le_trans h.c2 hb.size,h.d,h.f1,h.f2⟩
end
section
variable {B g : Nat} {T : List Tm} {S : Nat → Prop} {w : World}
theorem Ll {w w0 w':World} {g:Nat} {S:Nat→Prop} (hT:Tab w0) (hb0:Below w0.heap.size w0 w) (h:Ar w.heap.size w' g [] S) (hb:Below w.heap.size w w'):Use w.heap.size w' g [] S :=
 ⟨h,⟨w0,hT,hb0.size,hb0.trans (hb.mono hb0.size)⟩,hb.size,Nat.zero_le _⟩
end
theorem Qz {s:ByteArray} {t:Tm} (ht:good t) (he:s.data.toList=enc t):0<s.size∧∀h:0<s.size,s[0].toNat=240+t.k:=by
 obtain ⟨r,hr⟩:=uf t ht;have hk:=tY ht;have hl:=aD s;rw [he,hr] at hl
 have hp:0<s.size:=by
  rw [←hl];simp
 refine ⟨hp,fun h=>?_⟩
 have h0:s.data.toList=s[0] :: s.data.toList.drop 1:=by
  have:=kg (s:=s.data.toList) (p:=0) h;rw [List.drop_zero] at this;exact this
 rw [he,hr] at h0;injection h0 with h1 _;rw [←h1,UInt8.toNat_ofNat'];omega
section
variable {w : World}
theorem Pv (hT:Tab w) (x:ByteArray) (hs:x.size≤131072):Calls Tryz.prog 49 #[.string x] w (fun e w'=>∃r,e=.returned (.bool r)∧(r=true↔∃t,good t∧x.data.toList=enc t∧t.k≠1)∧Below w.heap.size w w'):=by
 have HN:=hide (yo w);have HT:=hide hT;have Hx:=hide (fun (W:World) (B g:Nat) (S:Nat→Prop) (hU:Use B W g [] S)=>ER hU hs (by simp));clear hT
 by_cases h0:x.size=0
 ·have hxn:x.data.toList=[]:=List.eq_nil_of_length_eq_zero (by rw [aD];exact h0)
  have hx1:(x.toList == [])=true:=by rw [ByteArray.toList_eq,hxn];rfl
  have Hxn:=hide hxn;clear hxn h0;go_enter Tryz.func49,Tryz.ntmps49;go_wp2_with fail;go_ret;refine ⟨false,rfl,?_,Below.refl _ _⟩;simp only [Bool.false_eq_true,false_iff];rintro ⟨t,ht,he,_⟩;exact yO t (he.symm.trans Hxn.out)
 ·have hi:(0:Int)<x.size:=by omega
  have hx1:(x.toList == [])=false:=by
   rw [beq_eq_false_iff_ne,ByteArray.toList_eq];intro e;have:=aD x;rw [e] at this;simp at this;omega
  have Hh:=hide (fun t ht he=>(Qz (s:=x) (t:=t) ht he).2 (by omega));clear h0;have hxp:0<x.size:=by omega
  by_cases hq':(((x[0]'hxp).toNat:Nat):Int)=241
  ·have hqb:((((x[0]'hxp).toNat:Nat):Int) == 241)=true:=by rw [beq_iff_eq];exact hq'
   have Hq:=hide hq';clear hq';go_enter Tryz.func49,Tryz.ntmps49;go_wp2_with fail;have hq':=Hq.out;go_ret;refine ⟨false,rfl,?_,Below.refl _ _⟩;simp only [Bool.false_eq_true,false_iff];rintro ⟨t,ht,he,hk⟩;have:=Hh.out t ht he;omega
  ·have hqb:((((x[0]'hxp).toNat:Nat):Int) == 241)=false:=by rw [beq_eq_false_iff_ne];exact hq'
   have Hq:=hide hq';clear hq';go_enter Tryz.func49,Tryz.ntmps49;go_wp2_with fail;have hq':=Hq.out;refine HN.out.mono ?_;rintro e w1 ⟨g,S,rfl,hA,hb1⟩;have hU:Use w.heap.size w1 g [] S:=Ll HT.out (Below.refl _ _) hA hb1;have hD:=hide (Hx.out w1 w.heap.size g S hU);clear hU hA;go_wp2_with fail;refine hD.out.mono ?_;rintro e w2 ⟨T',S',n,k,o,rfl,hid,ho,hA2,hG2,_,_⟩;have hsB:=hA2.sB;have hb2:=hG2.below hb1.size (fun i hi=>hsB i (hG2.sub i hi));rcases ho with ⟨t,rfl,ht,he,rfl⟩ | ⟨rfl,rfl,hno⟩
   ·go_wp2_with fail
    go_ret;refine ⟨true,rfl,?_,hb1.trans hb2⟩;simp only [true_iff];refine ⟨t,ht,he,fun hk=>?_⟩;have:=Hh.out t ht he;omega
   ·go_wp2_with fail
    go_ret;refine ⟨false,rfl,?_,hb1.trans hb2⟩;simp only [Bool.false_eq_true,false_iff];rintro ⟨t,ht,he,_⟩;exact hno t ht he
end
end Go.Proofs.YtnhekaepgpbijaaGreatDoor
