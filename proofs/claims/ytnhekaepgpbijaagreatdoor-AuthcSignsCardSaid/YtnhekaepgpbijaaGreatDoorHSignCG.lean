/- Several of my texts in one: RdrE, Owner, SignC, RdrF, RdrH, RdrG, Two, Opq. -/
import Derived.Test.YtnhekaepgpbijaaGreatDoorHRdrDG
import Derived.Test.YtnhekaepgpbijaaGreatDoorHSignQG
import Derived.Test.YtnhekaepgpbijaaGreatDoorHRdrBG
import Derived.Test.YtnhekaepgpbijaaGreatDoorHParseAG
import Derived.Test.YtnhekaepgpbijaaGreatDoorHMakeAG
set_option linter.unusedVariables false
set_option linter.unusedSimpArgs false
set_option maxHeartbeats 40000000
set_option maxRecDepth 100000
namespace Go.Proofs.YtnhekaepgpbijaaGreatDoor
open Go.RowKit Go.ChangeShapes Go.WideShapes Go.Sort
theorem expsO_is {x:ByteArray} {l:List Tm} {t:Tm} (h:expsO x l=some t):t=.mk 5 0 0 x l:=by
 unfold expsO at h
 split at h
 ·injection h with h
  exact h.symm
 ·cases h
theorem exps_next {x:ByteArray} {l:List Tm} {i:Nat} (hi:i<l.length) (h8:l.length≤8) (h:i=0∨expsO x (l.take i)=some (.mk 5 0 0 x (l.take i))) :
  (tExp (expsO x (l.take i)) (some l[i])=none∧expsO x l=none)∨∃r,tExp (expsO x (l.take i)) (some l[i])=some (.mk 5 0 0 x r)∧r.length=i+1∧((r[i]?=some l[i]∧expsO x (l.take (i+1))=some (.mk 5 0 0 x (l.take (i+1)))∧r=l.take (i+1))∨(r[i]?≠some l[i]∧expsO x l=none)):=by
 have hlen:(l.take i).length=i:=by rw [List.length_take];omega
 have hsn:l.take (i+1)=l.take i++[l[i]]:=List.take_succ_eq_append_getElem hi
 cases e:expsO x (l.take i) with
 | none =>
  rcases h with rfl | h
  ·rw [List.take_zero,expsO_base] at e
   exact .inl ⟨rfl,expsO_group e⟩
  ·rw [e] at h
   cases h
 | some t =>
  obtain rfl:=expsO_is e
  by_cases hk:l[i].k=2
  ·obtain ⟨s1,s2,s3⟩:=expsO_step e hk (by omega)
   rw [hlen] at s2 s3
   refine .inr ⟨ins l[i] (l.take i),s1,by rw [ins_len,hlen],?_⟩
   by_cases hr:(ins l[i] (l.take i))[i]?=some l[i]
   ·obtain ⟨h1,h2⟩:=s2 hr
    exact .inl ⟨hr,by rw [hsn];exact h2,by rw [hsn];exact h1⟩
   ·refine .inr ⟨hr,?_⟩
    have:=s3 hr (l.drop (i+1))
    rw [←hsn,List.take_append_drop] at this
    exact this
  ·refine .inl ⟨?_,expsO_kind (List.getElem_mem hi) hk⟩
   show (if _ then _ else _)=none
   rw [if_neg]
   rintro ⟨_,h2,_⟩
   exact hk h2
section
variable {B b g p p0 N : Nat} {s : ByteArray} {T : List Tm} {S : Nat → Prop} {w w1 w2 : World} {c : UInt8} {s1 : List UInt8}
structure ShI (B b g:Nat) (s:ByteArray) (p':Nat) (x:ByteArray) (l:List Tm) (gb:Nat) (T:List Tm) (S:Nat→Prop) (w:World) (i:Nat) (T':List Tm) (S':Nat→Prop) (t:Int) (wr:World):Prop where
 rd:Rd B b g s p' T' S' wr
 grown:Grown (SR b S) w (SR b S') wr
 pre:T <+: T'
 few:T'.length≤T.length+1+i
 id:Idn T' (expsO x (l.take i)) t
 ok:i=0∨expsO x (l.take i)=some (.mk 5 0 0 x (l.take i))
 cell:∀(k:Nat) (u:Tm),l[k]?=some u→∃m:Int,wr.cell? ⟨gb,k,none⟩=some (.int .i64 m)∧Idn T' (some u) m
 out:0<l.length→¬ SR b S' gb∧gb<wr.heap.size
theorem pos_at {l:List Tm} {k:Nat} {u:Tm} (h:l[k]?=some u):0<l.length:=by
 have:=(List.getElem?_eq_some_iff.1 h).1
 omega
theorem ShI.step {p':Nat} {x:ByteArray} {l:List Tm} {gb i:Nat} {T' T2:List Tm} {S' S2:Nat→Prop} {t m:Int} {wr:World} (h:ShI B b g s p' x l gb T S w i T' S' t wr) (hG:Grown S' wr S2 w1) (hA:Ar B w1 g T2 S2) (hp:T' <+: T2) (hl:T2.length≤T'.length+1) (hf:T2.length+2*(s.size - p')≤900000000) (hb:Below w1.heap.size w1 w2)
  {o:Option Tm} (hm:Idn T2 o m) (ho:o=expsO x (l.take (i+1))) (hok:expsO x (l.take (i+1))=some (.mk 5 0 0 x (l.take (i+1)))):ShI B b g s p' x l gb T S w (i+1) T2 S2 m w2 :=
 ⟨(h.rd.grown hG hA hf).below hb,(h.grown.trans (hG.sr b)).trans (Grown.of_below hb),h.pre.trans hp,by have:=h.few;omega,ho ▸ hm,.inr hok,fun k u hk=>by
  obtain ⟨m',h1,h2⟩:=h.cell k u hk
  obtain ⟨h3,h4⟩:=h.out (pos_at hk)
  exact ⟨m',(hb.cell (p:=⟨gb,k,none⟩) (Nat.lt_of_lt_of_le h4 hG.size)).trans (hG.outs.cell h1 (fun h9=>h3 (.inl h9))),h2.pre hp⟩,fun h0=>by
  obtain ⟨h3,h4⟩:=h.out h0
  exact ⟨(hG.sr b).notin2 h3 h4,Nat.lt_of_lt_of_le (Nat.lt_of_lt_of_le h4 hG.size) hb.size⟩⟩
theorem view_cells {T:List Tm} {n:Int} {w w':World} {e:Ending} {t:Tm} {i:Nat} (h:arg T n=some t) (hi:i<t.l.length) (hv:Viewed T n w e w') :
  ∃gv cv m x0 x1 x2 x3,e=.returned (.tuple #[.agg #[.int .i64 x0,.int .i64 x1,.int .i64 x2,.string x3,.slice (some ⟨gv,0,none⟩) t.l.length cv],.bool true])∧w'.cell? ⟨gv,i,none⟩=some (.int .i64 m)∧Idn T (t.l[i]?) m∧gv<w'.heap.size∧Below w.heap.size w w':=by
 obtain ⟨js,A,c,ha,rfl,hown,hb⟩:=view_some h hv
 have hjl:=ha.len
 obtain ⟨gv,cap,hv2,_,hlt⟩:=hown.form (by omega)
 have hA:A=some ⟨gv,0,none⟩:=by injection hv2
 subst hA
 obtain ⟨c1,hc1,hT⟩:=ha.at_ (p:=i) (by omega)
 have hc:=hown.cells (g:=gv) rfl i (.int .i64 (js[i]'(by omega):Nat)) (by rw [List.getElem?_map,List.getElem?_map,List.getElem?_eq_getElem (by omega)];rfl)
 rw [add_zero_] at hc
 refine ⟨gv,c,(js[i]'(by omega):Nat),t.k,t.a,t.b,t.s,rfl,hc,⟨by rw [arg_at,hT,hc1],fun h0=>by rw [hc1] at h0;cases h0⟩,hlt,hb⟩
theorem share_any (IH:TermIH B b g s N) (h:Rd B b g s (p0+1) T S w) (hN:s.size - (p0+1)<N) (h1:s.data.toList.drop p0=c :: s.data.toList.drop (p0+1)) (hc:c.toNat=245) (hK:T.length+2*(s.size - p0)≤900000000) :
  Calls Tryz.prog 170 #[.pointer (some ⟨b,0,none⟩)] w (Got B b g s p0 (p0+1) T S w):=by
 have HX:=hide (text_all h)
 have H1:=hide h1
 have HIH:=hide IH
 have hlen:=h.len
 have hsz:=h.hs
 clear h h1 IH
 go_enter Tryz.func170,Tryz.ntmps170
 go_wp2_with fail
 refine HX.out.mono ?_
 rintro e w1 (⟨p1,rfl,hno,hR,hG,hle⟩ | ⟨n,hn,h5,rfl,hR,hG⟩)
 ·go_wp2_with fail
  go_ret
  refine got_none ?_ hR hG hle
  rw [H1.out]
  exact no5 hc (by omega)
 ·have e1:p0+1+4+n=p0+1+(4+n):=by omega
  have hnl:(bs ((s.data.toList.drop (p0+1+4)).take n)).size≤131072:=by
   show ((s.data.toList.drop (p0+1+4)).take n).length≤131072
   rw [List.length_take,List.length_drop,size_len]
   omega
  by_cases h4:s.size<p0+1+4+n+4
  ·have HC:=hide (counted_no1 hR 8 h4)
   go_wp2_with fail
   refine HC.out.mono ?_
   rintro e w2 ⟨p2,rfl,hR2,hG2,hle2⟩
   go_wp2_with fail
   go_ret
   refine got_none ?_ hR2 (hG.trans hG2) (by omega)
   rw [H1.out]
   exact no5b hc (by omega) (by omega)
  ·obtain ⟨m,hm⟩:∃m,m=n4 (s.data.toList.drop (p0+1+4+n)):=⟨_,rfl⟩
   have hH:Hed 5 0 0 (bs ((s.data.toList.drop (p0+1+4)).take n)) m (s.data.toList.drop (p0+1)) (s.data.toList.drop (p0+1+4+n+4)):=by
    have:=hed5 (s1:=s.data.toList.drop (p0+1)) (by omega) (by omega)
    rw [List.drop_drop,List.drop_drop,List.drop_drop,← hn,← e1,← hm] at this
    rw [show p0+1+4+n+4=p0+1+(8+n) by omega]
    exact this
   by_cases hm8:(8:Int)<(m:Int)
   ·have HC:=hide (counted_no2 hR 8 (by omega) hm hm8)
    go_wp2_with fail
    refine HC.out.mono ?_
    rintro e w2 ⟨p2,rfl,hR2,hG2,hle2⟩
    go_wp2_with fail
    go_ret
    refine got_none ?_ hR2 (hG.trans hG2) (by omega)
    rw [H1.out]
    exact hH.nohd hc (fun hh=>by simp only [hd] at hh;omega)
   ·have HC:=hide (counted_yes HIH.out hR (by omega) 8 (by omega) hm (by omega) (by omega))
    have HH:=hide hH
    clear hH hm hn e1
    generalize hx:bs ((s.data.toList.drop (p0+1+4)).take n)=x at HH hnl ⊢
    clear hx
    go_wp2_with fail
    refine HC.out.mono ?_
    rintro e w2 (⟨T1,S1,p1,rfl,hNo,hR2,hG2,hpre,hl,hle⟩ | ⟨T1,S1,p1,l,A,cz,rfl,hg,hml,he,hI,hR2,hG2,hpre,hl,hle⟩)
    ·go_wp2_with fail
     go_ret
     exact ⟨T1,-1,S1,p1,none,rfl,idn_none _,readT_few H1.out hc HH.out hNo,hR2,hG.trans hG2,hpre,by omega,by omega⟩
    ·obtain ⟨gb,hgb,hcell⟩:∃gb,(0<m→A=some ⟨gb,0,none⟩∧gb<w2.heap.size∧¬ SR b S1 gb)∧(∀(k:Nat) (u:Tm),l[k]?=some u→∃q:Int,w2.cell? ⟨gb,k,none⟩=some (.int .i64 q)∧Idn T1 (some u) q):=by
      rcases Nat.eq_zero_or_pos m with h0 | h0
      ·subst h0
       obtain rfl:l=[]:=List.eq_nil_of_length_eq_zero hml
       exact ⟨0,fun h=>absurd h (by omega),fun k u hk=>by simp at hk⟩
      ·obtain ⟨gb,rfl,hgl,hc⟩:=ido_cells hI hml h0
       exact ⟨gb,fun _=>⟨rfl,hgl,hI.out gb rfl⟩,hc⟩
     have hb2:=rd_cells hR2
     have HB:=hide (aBase_any hR2.use (s:=x) (by omega))
     have hR2h:=hide hR2
     have hG2h:=hide (hG.trans hG2)
     have hgbh:=hide hgb
     have hcellh:=hide hcell
     have hfw:=hR2.few
     have hpw:=hR2.hp
     clear hR2 hG2 hI hG hR hgb hcell HC HX
     go_wp2_with fail
     refine HB.out.mono ?_
     rintro e w3 ⟨T2,t0,S2,rfl,hP,hA2,hG3⟩
     have hlP:=hP.len
     have HI0:Hid (ShI B b g s p1 x l gb T1 S1 w2 0 T2 S2 t0 w3):=hide ⟨hR2h.out.grown hG3 hA2 (by omega),hG3.sr b,hP.pre,by omega,by rw [List.take_zero,expsO_base];exact hP.idn,.inl rfl,fun k u hk=>by
      obtain ⟨q,h1,h2⟩:=hcellh.out k u hk
      obtain ⟨h3,h4,h5⟩:=hgbh.out (by have:=pos_at hk;omega)
      exact ⟨q,hG3.outs.cell h1 (fun h9=>h5 (.inl h9)),h2.pre hP.pre⟩,fun h0=>by
      obtain ⟨h3,h4,h5⟩:=hgbh.out (by omega)
      exact ⟨(hG3.sr b).notin2 h5 h4,Nat.lt_of_lt_of_le h4 hG3.size⟩⟩
     have hA0:0<m→A=some ⟨gb,0,none⟩:=fun h=>(hgbh.out h).1
     clear hb2 HB hP hA2 hG3 hlP hgbh hcellh
     have H2:=hide he
     clear he
     go_wp2_with fail
     go_loopw [33,6] (fun vi vt wr=>∃(i:Nat) (T':List Tm) (S':Nat→Prop) (t:Int),vi=.int .i64 i∧vt=.int .i64 t∧i≤m∧ShI B b g s p1 x l gb T1 S1 w2 i T' S' t wr) (fun vi _ _=>m - (intOf vi).toNat)
     case atStart=>exact ⟨0,T2,S2,t0,rfl,rfl,Nat.zero_le _,HI0.out⟩
     case round =>
      obtain ⟨i,T',S',t,rfl,rfl,hi,hI⟩:=hrel
      by_cases hlt:i<m
      ·have hii:(i:Int)<m:=by omega
       obtain rfl:=hA0 (by omega)
       obtain ⟨q,hcq,hq⟩:=hI.cell i l[i] (List.getElem?_eq_getElem (by omega))
       have HE:=hide (aExp_any hI.rd.use t q)
       rw [hI.id.1,hq.1] at HE
       have hbr:=rd_cells hI.rd
       have Hn:=hide (exps_next (x:=x) (i:=i) (l:=l) (by omega) (by omega) hI.ok)
       have HI:=hide hI
       have hfwI:=hI.few
       have Hq:=hide hq
       clear hI hq
       go_wp2_with fail
       refine HE.out.mono ?_
       rintro e w4 ⟨T3,t3,S3,rfl,hP,hA3,hG3⟩
       have hlP:=hP.len
       have hR4:=HI.out.rd.grown hG3 hA3 (by omega)
       have hb4:=rd_cells hR4
       have HV:=hide (aview_any hA3 t3)
       rcases Hn.out with ⟨hno,hfin⟩ | ⟨r,hso,hrl,hrest⟩
       ·have Hid3:=hide (hno ▸ hP.idn)
        have Hfin:=hide (show Got B b g s p0 (p0+1) T S w (.returned (.int .i64 (-1))) w4 from ⟨T3,-1,S3,p1,none,rfl,idn_none _,hfin ▸ readT_fin hR4.hs H1.out hc (by omega) HH.out hg hml H2.out (madeOf_exps x l (by omega)),hR4,hG2h.out.trans (HI.out.grown.trans (hG3.sr b)),hpre.trans (HI.out.pre.trans hP.pre),by omega,by omega⟩)
        clear hP hA3 hG3 hR4 hno hfin
        go_wp2_with fail
        refine HV.out.mono ?_
        intro e w5 hv
        obtain ⟨rfl,hb5⟩:=view_none Hid3.out.1 hv
        clear hv
        go_wp2_with fail
        go_ret
        obtain ⟨T',n',S',p',o,he',h2,h3,h4,h5,h6⟩:=Hfin.out
        cases he'
        have hb6:=hb5.alloc hb5.size (.cells #[.int .i64 0,.int .i64 0,.int .i64 0,.string ⟨#[]⟩,.slice none 0 0] 126)
        exact ⟨T',-1,S',p',o,rfl,h2,h3,h4.below hb6,h5.trans (Grown.of_below hb6),h6⟩
       ·have hid3:=hso ▸ hP.idn
        have hX:=hP.pre
        clear hP
        go_wp2_with fail
        refine HV.out.mono ?_
        intro e w5 hv
        obtain ⟨gv,cv,q',x0,x1,x2,x3,rfl,hc5,hq5,hgv,hb5⟩:=view_cells (i:=i) hid3.1 (by show i<r.length;omega) hv
        clear hv
        have hii2:(i:Int)<r.length:=by omega
        have hqi:q'=q↔r[i]?=some l[i]:=hq5.eq_iff hA3.ok (Hq.out.pre hX)
        have hsm:(Tm.mk 5 0 0 x r).l.length=r.length:=rfl
        rw [hsm]
        rcases hrest with ⟨hr1,hr2,hr3⟩ | ⟨hr1,hr2⟩
        ·obtain rfl:=hqi.2 hr1
         have HS:=hide (fun w6 (hb6:Below w4.heap.size w4 w6)=>HI.out.step hG3 hA3 hX (by omega) (by omega) hb6 hid3 (by rw [hr3] at *;exact hr2.symm) hr2)
         clear hA3 hG3 hR4 hso hid3 hr1 hr2 hr3 hqi hq5 hX
         go_wp2
         exact ⟨⟨i+1,T3,S3,t3,by go_num,rfl,by omega,HS.out _ (hb5.alloc hb5.size _)⟩,by simp [intOf];omega⟩
        ·have hne:¬ q'=q:=fun h=>hr1 (hqi.1 h)
         have Hfin:=hide (show Got B b g s p0 (p0+1) T S w (.returned (.int .i64 (-1))) w4 from ⟨T3,-1,S3,p1,none,rfl,idn_none _,hr2 ▸ readT_fin hR4.hs H1.out hc (by omega) HH.out hg hml H2.out (madeOf_exps x l (by omega)),hR4,hG2h.out.trans (HI.out.grown.trans (hG3.sr b)),hpre.trans (HI.out.pre.trans hX),by omega,by omega⟩)
         clear hA3 hG3 hR4 hso hid3 hr1 hr2 hqi hq5 hX
         go_wp2
         go_ret
         obtain ⟨T',n',S',p',o,he',h2,h3,h4,h5,h6⟩:=Hfin.out
         cases he'
         have hb6:=hb5.alloc hb5.size (.cells #[.int .i64 x0,.int .i64 x1,.int .i64 x2,.string x3,.slice (some ⟨gv,0,none⟩) (i+1) cv] 126)
         exact ⟨T',-1,S',p',o,rfl,h2,h3,h4.below hb6,h5.trans (Grown.of_below hb6),h6⟩
      ·obtain rfl:i=m:=by omega
       have hii:¬ (i:Int)<i:=by omega
       have HI:=hide hI
       have hrd:=hI.rd.hs
       have hle1:=hI.few
       have hRT:=hide (readT_fin hrd H1.out hc (by omega) HH.out hg hml H2.out (madeOf_exps x l (by omega)))
       clear hI
       go_wp2
       go_ret
       have hI:=HI.out
       have hid:=hI.id
       rw [←hml,List.take_length] at hid
       exact ⟨T',t,S',p1,expsO x l,rfl,hid,hRT.out,hI.rd,hG2h.out.trans hI.grown,hpre.trans hI.pre,by omega,by omega⟩
end
def isPb (o:Option Tm):Bool:=match o with
 | some t=>t.k == 4
 | none=>false
def whoO (o:Option Tm):Nat:=match o with
 | some t=>if t.k=4 then (match t.l with
  | c :: _=>c.a
  | []=>0) else 0
 | none=>0
theorem pub_one {t:Tm} (h:good t) (hk:t.k=4):∃c,t.l=[c]∧good c∧c.k=3:=by
 cases t with
 | mk k a b s l =>
  simp only [Tm.k] at hk
  subst hk
  simp only [good] at h
  obtain ⟨h1,h2,h3⟩:=h
  have hl:l.length=1:=by
   simp only [hd] at h1
   omega
  match l,hl with
  | [c],_ =>
   refine ⟨c,rfl,(goods_iff _).1 h3 c (by simp),?_⟩
   simpa [kids] using h2
section
variable {B g : Nat} {w : World} {T : List Tm} {S : Nat → Prop}
theorem owner_any (h:Ar B w g T S) {o:Option Tm} {n:Int} (hn:Idn T o n):Calls Tryz.prog 54 #[.pointer (some ⟨g,0,none⟩),.int .i64 n] w (fun e w'=>e=.returned (.tuple #[.int .i64 (whoO o),.bool (isPb o)])∧Below w.heap.size w w'):=by
 have HV:=hide (aview_any h n)
 have H:=hide h
 cases o with
 | none =>
  go_enter Tryz.func54,Tryz.ntmps54
  go_wp2_with fail
  refine HV.out.mono ?_
  intro e w1 hv
  obtain ⟨rfl,hb⟩:=view_none hn.1 hv
  clear hv
  go_wp2_with fail
  go_ret2
  exact ⟨rfl,hb.alloc hb.size _⟩
 | some t =>
  have hgt:=(h.ok.fine t (arg_mem hn.1)).1
  by_cases hk:t.k=4
  ·obtain ⟨c,hc,hgc,_⟩:=pub_one hgt hk
   have hlen:t.l.length=1:=by rw [hc];rfl
   have e1:whoO (some t)=c.a:=by
    show (if t.k=4 then _ else _)=_
    rw [if_pos hk,hc]
   have e2:isPb (some t)=true:=by
    show (t.k == 4)=true
    rw [hk]
    rfl
   rw [e1,e2]
   have Hn:=hide hn
   have Hc:=hide hc
   have Hl:=hide hlen
   have Hk:=hide hk
   clear h hn hc e1 e2 hgt hgc hlen hk
   go_enter Tryz.func54,Tryz.ntmps54
   go_wp2_with fail
   refine HV.out.mono ?_
   intro e w1 hv
   obtain ⟨js,A,cc,ha,rfl,hown,hb⟩:=view_some Hn.out.1 hv
   clear hv
   have hjl:=ha.len
   rw [Hl.out] at hjl hown ⊢
   obtain ⟨gv,cap,hv2,_,hlt⟩:=hown.form (by omega)
   obtain rfl:A=some ⟨gv,0,none⟩:=by injection hv2
   obtain ⟨c1,hc1,hT⟩:=ha.at_ (p:=0) (by omega)
   rw [Hc.out] at hc1
   obtain rfl:c=c1:=by simpa using hc1
   have hcell:=hown.cells (g:=gv) rfl 0 (.int .i64 (js[0]'(by omega):Nat)) (by rw [List.getElem?_map,List.getElem?_map,List.getElem?_eq_getElem (by omega)];rfl)
   rw [add_zero_] at hcell
   have harg:arg T (js[0]'(by omega):Nat)=some c:=by rw [arg_at];exact hT
   have hkk:=Hk.out
   rw [hkk] at *
   have hb2:=hb.alloc hb.size (.cells #[.int .i64 (4:Nat),.int .i64 t.a,.int .i64 t.b,.string t.s,.slice (some ⟨gv,0,none⟩) 1 cc] 126)
   have HV2:=hide (aview_any (H.out.below hb2) (js[0]'(by omega):Nat))
   have Harg:=hide harg
   generalize ((js[0]'(by omega):Nat):Int)=m at hcell HV2 Harg
   clear ha hown hv2 hT hc1 hjl harg
   go_wp2_with fail
   refine HV2.out.mono ?_
   intro e w2 hv
   obtain ⟨js2,A2,cc2,_,rfl,_,hb3⟩:=view_some Harg.out hv
   clear hv
   have hb4:=hb2.trans (hb3.mono hb2.size)
   go_wp2_with fail
   go_ret2
   exact ⟨rfl,hb4.alloc hb4.size _⟩
  ·have e1:whoO (some t)=0:=by
    show (if t.k=4 then _ else _)=_
    rw [if_neg hk]
   have e2:isPb (some t)=false:=by
    show (t.k == 4)=false
    simpa using hk
   rw [e1,e2]
   have hki:((t.k:Int) == 4)=false:=by simp only [beq_eq_false_iff_ne,ne_eq];omega
   have Hn:=hide hn
   clear h hn e1 e2 hgt hk
   go_enter Tryz.func54,Tryz.ntmps54
   go_wp2_with fail
   refine HV.out.mono ?_
   intro e w1 hv
   obtain ⟨js,A,cc,ha,rfl,hown,hb⟩:=view_some Hn.out.1 hv
   clear hv
   go_wp2_with fail
   go_ret2
   exact ⟨rfl,hb.alloc hb.size _⟩
end
def usrB:ByteArray:=⟨#[117,115,101,114]⟩
noncomputable def chkS (a b:Prop):ByteArray:=@ite _ a (Classical.propDecidable a) keyB (@ite _ b (Classical.propDecidable b) sigB ⟨#[]⟩)
theorem chk_a {a b:Prop} (h:a):chkS a b=keyB:=by unfold chkS;rw [if_pos h]
theorem chk_b {a b:Prop} (h:¬ a) (h2:b):chkS a b=sigB:=by unfold chkS;rw [if_neg h,if_pos h2]
theorem chk_c {a b:Prop} (h:¬ a) (h2:¬ b):chkS a b=⟨#[]⟩:=by unfold chkS;rw [if_neg h,if_neg h2]
theorem or_flip (p q:Option Tm):(p=none∨p≠q)↔(q=none∨q≠p):=by
 constructor
 ·rintro (h | h)
  ·by_cases hq:q=none
   ·exact .inl hq
   ·exact .inr (by rw [h];exact hq)
  ·exact .inr (fun e=>h e.symm)
 ·rintro (h | h)
  ·by_cases hq:p=none
   ·exact .inl hq
   ·exact .inr (by rw [h];exact hq)
  ·exact .inr (fun e=>h e.symm)
def ErrIs (S:Nat→Prop) (W:World) (s1:ByteArray) (k:Int) (s2:ByteArray) (v:Value):Prop :=
 (s2=⟨#[]⟩∧v=.nilIface)∨(s2.size≤1000∧(s2.toList == [])=false∧∃b1 b2,v=.iface 168 (.pointer (some ⟨b1,0,none⟩))∧Flt W b1 b2 s1 s2 k∧¬ S b1∧¬ S b2)
theorem ErrIs.below {S:Nat→Prop} {W W':World} {s1 s2:ByteArray} {k:Int} {v:Value} (h:ErrIs S W s1 k s2 v) (hb:Below W.heap.size W W'):ErrIs S W' s1 k s2 v:=by
 rcases h with h | ⟨h1,h2,b1,b2,h3,h4,h5⟩
 ·exact .inl h
 ·exact .inr ⟨h1,h2,b1,b2,h3,h4.below hb,h5⟩
def ChkE (B:Nat) (w:World) (g:Nat) (T:List Tm) (S:Nat→Prop) (s1:ByteArray) (k:Int) (s2:ByteArray) (m:Nat) (e:Ending) (w':World):Prop :=
 ∃T' S' v,e=.returned v∧T <+: T'∧T'.length≤T.length+m∧Ar B w' g T' S'∧Grown S w S' w'∧ErrIs S' w' s1 k s2 v
theorem keyB_ok:keyB.size≤1000∧(keyB.toList == [])=false:=⟨by decide,by decide +kernel⟩
theorem sigB_ok:sigB.size≤1000∧(sigB.toList == [])=false:=⟨by decide,by decide +kernel⟩
section
variable {B g : Nat} {w w1 w2 : World} {T T1 : List Tm} {S S1 : Nat → Prop}
theorem chkE_wrong {s1 s2:ByteArray} {k:Int} {m:Nat} {e:Ending} (hA:Ar B w1 g T1 S1) (hG:Grown S w S1 w1) (hp:T <+: T1) (hl:T1.length≤T.length+m) (h2:s2.size≤1000∧(s2.toList == [])=false)
  (hw:∃b1 b2,e=.returned (.iface 168 (.pointer (some ⟨b1,0,none⟩)))∧Flt w2 b1 b2 s1 s2 k∧Below w1.heap.size w1 w2∧w1.heap.size≤b1∧w1.heap.size≤b2):ChkE B w g T S s1 k s2 m e w2:=by
 obtain ⟨b1,b2,rfl,hF,hb,l1,l2⟩:=hw
 exact ⟨T1,S1,_,rfl,hp,hl,hA.below hb,hG.trans (Grown.of_below hb),.inr ⟨h2.1,h2.2,b1,b2,rfl,hF,fun h9=>by have:=hA.sL _ h9;omega,fun h9=>by have:=hA.sL _ h9;omega⟩⟩
theorem checkUser_any (h:Use B w g T S) {os okey osig:Option Tm} {n nk ns:Int} {user service alg:ByteArray} (ho:Idn T os n) (hk:Idn T okey nk) (hs:Idn T osig ns) (hz1:user.size≤1000000) (hz2:service.size≤1000000) (hz3:alg.size≤1000000) (hT:T.length≤1000000) :
  Calls Tryz.prog 16 #[.pointer (some ⟨g,0,none⟩),.int .i64 n,.string user,.string service,.string alg,.int .i64 nk,.int .i64 ns] w
   (ChkE B w g T S usrB 12 (chkS (isPb okey=false) (osig=none∨osig≠userO os user service alg (whoO okey))) 11):=by
 have HO:=hide (owner_any h.ar hk)
 have H:=hide h
 have Hs:=hide hs
 have Ho:=hide ho
 clear h hs ho hk
 cases hb:isPb okey with
 | false =>
  rw [hb] at HO
  generalize ((whoO okey:Nat):Int)=who at HO ⊢
  rw [chk_a rfl]
  clear hb
  go_enter Tryz.func16,Tryz.ntmps16
  go_wp2_with fail
  refine HO.out.mono ?_
  rintro e w1 ⟨rfl,hb1⟩
  go_wp2_with fail
  refine (wrong_any usrB keyB 12 (by decide) w1).mono ?_
  intro e w2 hw
  have hF:=hide (chkE_wrong (T:=T) (m:=11) (H.out.below hb1).ar (Grown.of_below hb1) (List.prefix_refl _) (by omega) keyB_ok hw)
  obtain ⟨b1,b2,rfl,_⟩:=hw
  go_wp2_with fail
  go_ret
  exact hF.out
 | true =>
  rw [hb] at HO
  generalize ((whoO okey:Nat):Int)=who at HO ⊢
  clear hb
  have h0:¬ (true=false):=by decide
  obtain ⟨want,hwant⟩:∃want,want=userO os user service alg who:=⟨_,rfl⟩
  obtain ⟨s2,hs2⟩:∃s2,s2=chkS (true=false) (osig=none∨osig≠want):=⟨_,rfl⟩
  rw [←hwant,← hs2]
  have J1:=hide (fun h=>hs2.trans (chk_b h0 h))
  have J2:=hide (fun h=>hs2.trans (chk_c h0 h))
  have HW:=hide hwant
  clear h0 hs2 hwant
  go_enter Tryz.func16,Tryz.ntmps16
  go_wp2_with fail
  refine HO.out.mono ?_
  rintro e w1 ⟨rfl,hb1⟩
  have HU:=hide (suser_any (H.out.below hb1) Ho.out hz1 hz2 hz3 who hT)
  go_wp2_with fail
  refine HU.out.mono ?_
  rintro e w3 ⟨T3,n3,S3,rfl,hid3,hpre3,hl3,hA3,hG3⟩
  rw [←HW.out] at hid3
  have e3:n3=-1↔want=none:=hid3.none_iff
  have e4:n3=ns↔want=osig:=hid3.eq_iff hA3.ok (Hs.out.pre hpre3)
  have HA3:=hide hA3
  have HG3:=hide ((Grown.of_below hb1).trans hG3)
  clear hid3 hA3 hG3 HU
  by_cases c3:n3=-1
  ·have HE:=hide (J1.out ((or_flip _ _).1 (.inl (e3.1 c3))))
   subst c3
   clear e3 e4
   go_wp2_with fail
   refine (wrong_any usrB sigB 12 (by decide) w3).mono ?_
   intro e w4 hw
   have hF:=hide (chkE_wrong (T:=T) (m:=11) HA3.out HG3.out hpre3 hl3 sigB_ok hw)
   obtain ⟨b1,b2,rfl,_⟩:=hw
   go_wp2_with fail
   go_ret
   rw [HE.out]
   exact hF.out
  ·by_cases c4:n3=ns
   ·have hc:¬ (osig=none∨osig≠want):=fun h9=>by
     rcases (or_flip _ _).1 h9 with h8 | h8
     ·exact c3 (e3.2 h8)
     ·exact h8 (e4.1 c4)
    have HE:=hide (J2.out hc)
    subst c4
    clear e3 e4 hc
    go_wp2_with fail
    go_ret
    rw [HE.out]
    exact ⟨T3,S3,_,rfl,hpre3,hl3,HA3.out,HG3.out,.inl ⟨rfl,rfl⟩⟩
   ·have HE:=hide (J1.out ((or_flip _ _).1 (.inr (fun h9=>c4 (e4.2 h9)))))
    clear e3 e4
    go_wp2_with fail
    refine (wrong_any usrB sigB 12 (by decide) w3).mono ?_
    intro e w4 hw
    have hF:=hide (chkE_wrong (T:=T) (m:=11) HA3.out HG3.out hpre3 hl3 sigB_ok hw)
    obtain ⟨b1,b2,rfl,_⟩:=hw
    go_wp2_with fail
    go_ret
    rw [HE.out]
    exact hF.out
end
structure RowB (W0 wr:World) (os:List (Option Tm)) (v:Value) (b:Nat) (t:TypeId) (cs:Array Value):Prop where
 bel:Below W0.heap.size W0 wr
 own:wr.ownsRow W0.heap.size 9 1 v os.length (((os.map txt).map bs).map Value.string)
 blk:Blk wr b t cs
 ne:v.ownBlock≠some b
section
variable {W0 wr wz : World} {os : List (Option Tm)} {v : Value} {b : Nat} {t : TypeId} {cs : Array Value}
theorem RowB.below (h:RowB W0 wr os v b t cs) (hb:Below wr.heap.size wr wz):RowB W0 wz os v b t cs :=
 ⟨h.bel.trans (hb.mono h.bel.size),h.own.kept (only_of_below hb none) (by cases v.ownBlock <;> simp),h.blk.below hb h.blk.lt,h.ne⟩
theorem RowB.txs (h:RowB W0 wr os v b t cs):Txs wr v (os.map txt):=own_txs h.own (by simp)
end
theorem reqL_fine {o p:Option Tm} (ho:fineO o) (hp:fineO p) {user service alg:ByteArray} (h1:user.size≤1000000) (h2:service.size≤1000000) (h3:alg.size≤1000000):∀x∈reqL o user service alg p,fineO x:=by
 intro x hx
 simp only [reqL,List.mem_cons,List.not_mem_nil,or_false] at hx
 rcases hx with rfl | rfl | rfl | rfl | rfl | rfl | rfl | rfl
 ·exact ho
 ·exact tData_fine (by decide)
 ·exact tData_fine (by omega)
 ·exact tData_fine (by omega)
 ·exact tData_fine (by decide)
 ·exact tData_fine (by decide)
 ·exact tData_fine (by omega)
 ·exact hp
section
variable {w : World}
theorem userO_fine {o:Option Tm} (ho:fineO o) {user service alg:ByteArray} (h1:user.size≤1000000) (h2:service.size≤1000000) (h3:alg.size≤1000000) (who:Int):fineO (userO o user service alg who) :=
 tSign_fine (tKey_fine who) (tList_fine (reqL_fine ho (tPub_fine (tKey_fine who)) h1 h2 h3))
end
section
variable {B b g p p0 N : Nat} {s : ByteArray} {T : List Tm} {S : Nat → Prop} {w w0 w1 w2 : World} {c : UInt8} {s1 : List UInt8}
theorem Got.term {e:Ending} {w':World} (h:Got B b g s p (p+1) T S w1 e w') (hG:Grown (SR b S) w (SR b S) w1) (hp:p+1≤s.size):GotT B b g s p T S w e w':=by
 obtain ⟨T',n,S',p',o,h1,h2,h3,h4,h5,h6,h7,h8⟩:=h
 exact ⟨T',n,S',p',o,h1,h2,h3,h4,hG.trans h5,h6,by omega,by omega⟩
theorem Got.from_ {q q':Nat} {e:Ending} {w':World} (h:Got B b g s p0 q' T S w1 e w') (hG:Grown (SR b S) w (SR b S) w1) (hp:q≤q'):Got B b g s p0 q T S w e w':=by
 obtain ⟨T',n,S',p',o,h1,h2,h3,h4,h5,h6,h7,h8⟩:=h
 exact ⟨T',n,S',p',o,h1,h2,h3,h4,hG.trans h5,h6,by omega,by omega⟩
theorem byte_yes (h:Rd B b g s p T S w) (hd:s.data.toList.drop p=c :: s.data.toList.drop (p+1)):Calls Tryz.prog 166 #[.pointer (some ⟨b,0,none⟩)] w (fun e w'=>e=.returned (.tuple #[.int .u8 c.toNat,.bool true])∧p+1≤s.size∧Rd B b g s (p+1) T S w'∧Grown (SR b S) w (SR b S) w'):=by
 refine (byte_all h).mono ?_
 rintro e w' (⟨rfl,hpe,hR,hG⟩ | ⟨c2,hd2,hps,rfl,hR,hG⟩)
 ·rw [List.drop_of_length_le (by rw [size_len];omega)] at hd
  cases hd
 ·rw [hd] at hd2
  injection hd2 with e1 _
  exact ⟨by rw [e1],hps,hR,hG⟩
theorem term_end (h:Rd B b g s p T S w) (hpe:p=s.size) :
  Calls Tryz.prog 96 #[.pointer (some ⟨b,0,none⟩)] w (GotT B b g s p T S w):=by
 have HB:=hide (fun (W:World) (hb:Below w.heap.size w W)=>byte_all (h.below hb))
 clear h
 go_enter Tryz.func96,Tryz.ntmps96
 go_wp2_with fail
 have hb0:=bel_new (w:=w) (.cells #[.pointer (some ⟨b,0,none⟩)] 176)
 refine (HB.out _ hb0).mono ?_
 rintro e w1 (⟨rfl,hpe,hR,hG⟩ | ⟨c,hd,hps,rfl,hR,hG⟩)
 ·go_wp2_with fail
  go_ret
  exact ⟨T,-1,S,p,none,rfl,idn_none _,readT_none (by
   rw [List.drop_of_length_le (by rw [size_len];omega)]
   intro t r ht e
   have:=congrArg List.length e
   have h1:1≤(enc t).length:=List.length_pos_iff.2 (enc_ne t)
   simp at this
   omega),hR,(Grown.of_below hb0).trans hG,List.prefix_refl _,by omega,Nat.le_refl _⟩
 ·omega
theorem term_244 (IH:TermIH B b g s N) (h:Rd B b g s p T S w) (hN:s.size - p<N+1) (hd:s.data.toList.drop p=c :: s.data.toList.drop (p+1)) (hq:c.toNat=244) :
  Calls Tryz.prog 96 #[.pointer (some ⟨b,0,none⟩)] w (GotT B b g s p T S w):=by
 have HB:=hide (fun (W:World) (hb:Below w.heap.size w W)=>byte_yes (h.below hb) hd)
 have HIH:=hide IH
 have hsr:=h.sr_lt
 have hK:=h.few
 have hxn:¬ SR b S w.heap.size:=fun h9=>by have:=hsr _ h9;omega
 clear h IH hsr
 rw [hq] at HB
 go_enter Tryz.func96,Tryz.ntmps96
 go_wp2_with fail
 have hx0:=Blk.new w 176 #[.pointer (some ⟨b,0,none⟩)]
 have hb0:=bel_new (w:=w) (.cells #[.pointer (some ⟨b,0,none⟩)] 176)
 refine (HB.out _ hb0).mono ?_
 rintro e w1 ⟨rfl,hps,hR,hG⟩
 have hx1:=hG.outs.blk hx0 hxn
 have hG0:=(Grown.of_below (S:=SR b S) hb0).trans hG
 have hxc:w1.cell? ⟨w.heap.size,0,none⟩=some (.pointer (some ⟨b,0,none⟩)):=hx1.cell 0
 obtain ⟨bx,hbx⟩:∃bx,bx=w.heap.size:=⟨_,rfl⟩
 rw [←hbx] at hx1 hxc hxn ⊢
 clear hx0 hb0 hG HB hbx
 have Hd:=hide hd
 have hsz:=hR.hs
 have hlen:=hR.len
 clear hd
 have HW:=hide (with1_any HIH.out hR (by omega) hx1 hxn Hd.out hq hed4 (by omega) hK)
 clear hx1
 go_wp2_with fail
 refine HW.out.mono ?_
 intro e w2 hg
 have hF:=hide (hg.term hG0 hps)
 obtain ⟨T2,m,S2,p2,o2,rfl,_⟩:=hg
 go_wp2_with fail
 go_ret
 exact hF.out
theorem term_247 (IH:TermIH B b g s N) (h:Rd B b g s p T S w) (hN:s.size - p<N+1) (hd:s.data.toList.drop p=c :: s.data.toList.drop (p+1)) (hq:c.toNat=247) :
  Calls Tryz.prog 96 #[.pointer (some ⟨b,0,none⟩)] w (GotT B b g s p T S w):=by
 have HB:=hide (fun (W:World) (hb:Below w.heap.size w W)=>byte_yes (h.below hb) hd)
 have HIH:=hide IH
 have hsr:=h.sr_lt
 have hK:=h.few
 have hxn:¬ SR b S w.heap.size:=fun h9=>by have:=hsr _ h9;omega
 clear h IH hsr
 rw [hq] at HB
 go_enter Tryz.func96,Tryz.ntmps96
 go_wp2_with fail
 have hx0:=Blk.new w 176 #[.pointer (some ⟨b,0,none⟩)]
 have hb0:=bel_new (w:=w) (.cells #[.pointer (some ⟨b,0,none⟩)] 176)
 refine (HB.out _ hb0).mono ?_
 rintro e w1 ⟨rfl,hps,hR,hG⟩
 have hx1:=hG.outs.blk hx0 hxn
 have hG0:=(Grown.of_below (S:=SR b S) hb0).trans hG
 have hxc:w1.cell? ⟨w.heap.size,0,none⟩=some (.pointer (some ⟨b,0,none⟩)):=hx1.cell 0
 obtain ⟨bx,hbx⟩:∃bx,bx=w.heap.size:=⟨_,rfl⟩
 rw [←hbx] at hx1 hxc hxn ⊢
 clear hx0 hb0 hG HB hbx
 have Hd:=hide hd
 have hsz:=hR.hs
 have hlen:=hR.len
 clear hd
 have HW:=hide (with2_any HIH.out hR (by omega) hx1 hxn Hd.out hq hed7 (by omega) hK)
 clear hx1
 go_wp2_with fail
 refine HW.out.mono ?_
 intro e w2 hg
 have hF:=hide (hg.term hG0 hps)
 obtain ⟨T2,m,S2,p2,o2,rfl,_⟩:=hg
 go_wp2_with fail
 go_ret
 exact hF.out
theorem term_245 (IH:TermIH B b g s N) (h:Rd B b g s p T S w) (hN:s.size - p<N+1) (hd:s.data.toList.drop p=c :: s.data.toList.drop (p+1)) (hq:c.toNat=245) :
  Calls Tryz.prog 96 #[.pointer (some ⟨b,0,none⟩)] w (GotT B b g s p T S w):=by
 have HB:=hide (fun (W:World) (hb:Below w.heap.size w W)=>byte_yes (h.below hb) hd)
 have HIH:=hide IH
 have hsr:=h.sr_lt
 have hK:=h.few
 have hxn:¬ SR b S w.heap.size:=fun h9=>by have:=hsr _ h9;omega
 clear h IH hsr
 rw [hq] at HB
 go_enter Tryz.func96,Tryz.ntmps96
 go_wp2_with fail
 have hx0:=Blk.new w 176 #[.pointer (some ⟨b,0,none⟩)]
 have hb0:=bel_new (w:=w) (.cells #[.pointer (some ⟨b,0,none⟩)] 176)
 refine (HB.out _ hb0).mono ?_
 rintro e w1 ⟨rfl,hps,hR,hG⟩
 have hx1:=hG.outs.blk hx0 hxn
 have hG0:=(Grown.of_below (S:=SR b S) hb0).trans hG
 have hxc:w1.cell? ⟨w.heap.size,0,none⟩=some (.pointer (some ⟨b,0,none⟩)):=hx1.cell 0
 obtain ⟨bx,hbx⟩:∃bx,bx=w.heap.size:=⟨_,rfl⟩
 rw [←hbx] at hx1 hxc hxn ⊢
 clear hx0 hb0 hG HB hbx
 have Hd:=hide hd
 have hsz:=hR.hs
 have hlen:=hR.len
 clear hd
 have HW:=hide (share_any HIH.out hR (by omega) Hd.out hq hK)
 clear hx1
 go_wp2_with fail
 refine HW.out.mono ?_
 intro e w2 hg
 have hF:=hide (hg.term hG0 hps)
 obtain ⟨T2,m,S2,p2,o2,rfl,_⟩:=hg
 go_wp2_with fail
 go_ret
 exact hF.out
theorem term_246 (IH:TermIH B b g s N) (h:Rd B b g s p T S w) (hN:s.size - p<N+1) (hd:s.data.toList.drop p=c :: s.data.toList.drop (p+1)) (hq:c.toNat=246) :
  Calls Tryz.prog 96 #[.pointer (some ⟨b,0,none⟩)] w (GotT B b g s p T S w):=by
 have HB:=hide (fun (W:World) (hb:Below w.heap.size w W)=>byte_yes (h.below hb) hd)
 have HIH:=hide IH
 have hsr:=h.sr_lt
 have hK:=h.few
 have hxn:¬ SR b S w.heap.size:=fun h9=>by have:=hsr _ h9;omega
 clear h IH hsr
 rw [hq] at HB
 go_enter Tryz.func96,Tryz.ntmps96
 go_wp2_with fail
 have hx0:=Blk.new w 176 #[.pointer (some ⟨b,0,none⟩)]
 have hb0:=bel_new (w:=w) (.cells #[.pointer (some ⟨b,0,none⟩)] 176)
 refine (HB.out _ hb0).mono ?_
 rintro e w1 ⟨rfl,hps,hR,hG⟩
 have hx1:=hG.outs.blk hx0 hxn
 have hG0:=(Grown.of_below (S:=SR b S) hb0).trans hG
 have hxc:w1.cell? ⟨w.heap.size,0,none⟩=some (.pointer (some ⟨b,0,none⟩)):=hx1.cell 0
 obtain ⟨bx,hbx⟩:∃bx,bx=w.heap.size:=⟨_,rfl⟩
 rw [←hbx] at hx1 hxc hxn ⊢
 clear hx0 hb0 hG HB hbx
 have Hd:=hide hd
 have hsz:=hR.hs
 have hlen:=hR.len
 clear hd
 have HW:=hide (text_all hR)
 go_wp2_with fail
 refine HW.out.mono ?_
 rintro e w2 (⟨p1,rfl,hno,hR2,hG2,hle⟩ | ⟨n,hn,h5,rfl,hR2,hG2⟩)
 ·have hx2:=hG2.outs.blk hx1 hxn
  clear hx1
  go_wp2_with fail
  go_ret
  exact ⟨T,-1,S,_,none,rfl,idn_none _,readT_none (by rw [Hd.out];exact no6 hq (by omega)),hR2.below (bel_new _),(hG0.trans hG2).trans (Grown.of_below (bel_new _)),List.prefix_refl _,by omega,by omega⟩
 ·have hx2:=hG2.outs.blk hx1 hxn
  have hH:Hed 6 0 0 (bs ((s.data.toList.drop (p+1+4)).take n)) 2 (s.data.toList.drop (p+1)) (s.data.toList.drop (p+1+4+n)):=by
   have:=hed6 (s1:=s.data.toList.drop (p+1)) (by omega) (by omega)
   rw [List.drop_drop,List.drop_drop,← hn] at this
   rw [show p+1+4+n=p+1+(4+n) by omega]
   exact this
  have hxs:(bs ((s.data.toList.drop (p+1+4)).take n)).size≤1000000:=by
   show ((s.data.toList.drop (p+1+4)).take n).length≤1000000
   rw [List.length_take,List.length_drop,size_len]
   omega
  clear hn
  generalize bs ((s.data.toList.drop (p+1+4)).take n)=x at hH hxs ⊢
  have hR3:=hR2.below (bel_new (.cells #[.string x] 9))
  have hx3:=hx2.below (bel_new (.cells #[.string x] 9)) hx2.lt
  have hy3:=Blk.new w2 9 #[.string x]
  have hyn:¬ SR b S w2.heap.size:=fun h9=>by have:=hR2.sr_lt _ h9;omega
  have HV:=hide (with3_any HIH.out hR3 (by omega) hx3 hxn hxs hy3 hyn Hd.out hq hH (by omega) hK)
  have hxc2:w2.cell? ⟨bx,0,none⟩=some (.pointer (some ⟨b,0,none⟩)):=hx2.cell 0
  have hxc3:(w2.alloc (.cells #[.string x] 9)).cell? ⟨bx,0,none⟩=some (.pointer (some ⟨b,0,none⟩)):=hx3.cell 0
  have hG3:=(hG0.trans hG2).trans (Grown.of_below (bel_new (.cells #[.string x] 9)))
  clear hx1 hx2 hx3 hy3 hR3 hR2 hH hG2 hxc
  go_wp2_with fail
  refine HV.out.mono ?_
  intro e w3 hg
  have hF:=hide ((hg.from_ (q:=p+1) (Grown.refl _ _) (by omega)).term hG3 hps)
  obtain ⟨T2,m,S2,p2,o2,rfl,_⟩:=hg
  go_wp2_with fail
  go_ret
  exact hF.out
theorem term_248 (IH:TermIH B b g s N) (h:Rd B b g s p T S w) (hN:s.size - p<N+1) (hd:s.data.toList.drop p=c :: s.data.toList.drop (p+1)) (hq:c.toNat=248) :
  Calls Tryz.prog 96 #[.pointer (some ⟨b,0,none⟩)] w (GotT B b g s p T S w):=by
 have HB:=hide (fun (W:World) (hb:Below w.heap.size w W)=>byte_yes (h.below hb) hd)
 have HIH:=hide IH
 have hsr:=h.sr_lt
 have hK:=h.few
 have hxn:¬ SR b S w.heap.size:=fun h9=>by have:=hsr _ h9;omega
 clear h IH hsr
 rw [hq] at HB
 go_enter Tryz.func96,Tryz.ntmps96
 go_wp2_with fail
 have hx0:=Blk.new w 176 #[.pointer (some ⟨b,0,none⟩)]
 have hb0:=bel_new (w:=w) (.cells #[.pointer (some ⟨b,0,none⟩)] 176)
 refine (HB.out _ hb0).mono ?_
 rintro e w1 ⟨rfl,hps,hR,hG⟩
 have hx1:=hG.outs.blk hx0 hxn
 have hG0:=(Grown.of_below (S:=SR b S) hb0).trans hG
 have hxc:w1.cell? ⟨w.heap.size,0,none⟩=some (.pointer (some ⟨b,0,none⟩)):=hx1.cell 0
 obtain ⟨bx,hbx⟩:∃bx,bx=w.heap.size:=⟨_,rfl⟩
 rw [←hbx] at hx1 hxc hxn ⊢
 clear hx0 hb0 hG HB hbx
 have Hd:=hide hd
 have hsz:=hR.hs
 have hlen:=hR.len
 clear hd
 have HW:=hide (byte_all hR)
 go_wp2_with fail
 refine HW.out.mono ?_
 rintro e w2 (⟨rfl,hpe,hR2,hG2⟩ | ⟨c2,hd2,hps2,rfl,hR2,hG2⟩)
 ·have hx2:=hG2.outs.blk hx1 hxn
  clear hx1
  go_wp2_with fail
  go_ret
  exact ⟨T,-1,S,_,none,rfl,idn_none _,readT_none (by rw [Hd.out];exact no8 hq (List.drop_of_length_le (by rw [size_len];omega))),hR2.below (bel_new _),(hG0.trans hG2).trans (Grown.of_below (bel_new _)),List.prefix_refl _,by omega,by omega⟩
 ·have hx2:=hG2.outs.blk hx1 hxn
  have hH:Hed 8 0 c2.toNat eB 3 (s.data.toList.drop (p+1)) (s.data.toList.drop (p+1+1)):=by
   rw [hd2]
   exact hed8
  have hcl2:=c2.toNat_lt
  clear hd2
  generalize c2.toNat=x at hH hcl2 ⊢
  have hR3:=hR2.below (bel_new (.cells #[.int .u8 (x:Nat)] 5))
  have hx3:=hx2.below (bel_new (.cells #[.int .u8 (x:Nat)] 5)) hx2.lt
  have hy3:=Blk.new w2 5 #[.int .u8 (x:Nat)]
  have hyn:¬ SR b S w2.heap.size:=fun h9=>by have:=hR2.sr_lt _ h9;omega
  have HV:=hide (with4_any HIH.out hR3 (by omega) hx3 hxn hcl2 hy3 hyn Hd.out hq hH (by omega) hK)
  have hxc2:w2.cell? ⟨bx,0,none⟩=some (.pointer (some ⟨b,0,none⟩)):=hx2.cell 0
  have hxc3:(w2.alloc (.cells #[.int .u8 (x:Nat)] 5)).cell? ⟨bx,0,none⟩=some (.pointer (some ⟨b,0,none⟩)):=hx3.cell 0
  have hG3:=(hG0.trans hG2).trans (Grown.of_below (bel_new (.cells #[.int .u8 (x:Nat)] 5)))
  clear hx1 hx2 hx3 hy3 hR3 hR2 hH hG2 hxc
  go_wp2_with fail
  refine HV.out.mono ?_
  intro e w3 hg
  have hF:=hide ((hg.from_ (q:=p+1) (Grown.refl _ _) (by omega)).term hG3 hps)
  obtain ⟨T2,m,S2,p2,o2,rfl,_⟩:=hg
  go_wp2_with fail
  go_ret
  exact hF.out
theorem term_249 (IH:TermIH B b g s N) (h:Rd B b g s p T S w) (hN:s.size - p<N+1) (hd:s.data.toList.drop p=c :: s.data.toList.drop (p+1)) (hq:c.toNat=249) :
  Calls Tryz.prog 96 #[.pointer (some ⟨b,0,none⟩)] w (GotT B b g s p T S w):=by
 have HB:=hide (fun (W:World) (hb:Below w.heap.size w W)=>byte_yes (h.below hb) hd)
 have HIH:=hide IH
 have hsr:=h.sr_lt
 have hK:=h.few
 have hxn:¬ SR b S w.heap.size:=fun h9=>by have:=hsr _ h9;omega
 clear h IH hsr
 rw [hq] at HB
 go_enter Tryz.func96,Tryz.ntmps96
 go_wp2_with fail
 have hx0:=Blk.new w 176 #[.pointer (some ⟨b,0,none⟩)]
 have hb0:=bel_new (w:=w) (.cells #[.pointer (some ⟨b,0,none⟩)] 176)
 refine (HB.out _ hb0).mono ?_
 rintro e w1 ⟨rfl,hps,hR,hG⟩
 have hx1:=hG.outs.blk hx0 hxn
 have hG0:=(Grown.of_below (S:=SR b S) hb0).trans hG
 have hxc:w1.cell? ⟨w.heap.size,0,none⟩=some (.pointer (some ⟨b,0,none⟩)):=hx1.cell 0
 obtain ⟨bx,hbx⟩:∃bx,bx=w.heap.size:=⟨_,rfl⟩
 rw [←hbx] at hx1 hxc hxn ⊢
 clear hx0 hb0 hG HB hbx
 have Hd:=hide hd
 have hsz:=hR.hs
 have hlen:=hR.len
 clear hd
 have HW:=hide (num_all hR)
 go_wp2_with fail
 refine HW.out.mono ?_
 rintro e w2 (⟨rfl,hno,hR2,hG2⟩ | ⟨h4,rfl,hR2,hG2⟩)
 ·have hx2:=hG2.outs.blk hx1 hxn
  clear hx1
  go_wp2_with fail
  go_ret
  exact ⟨T,-1,S,_,none,rfl,idn_none _,readT_none (by rw [Hd.out];exact no9 hq (by omega)),hR2.below (bel_new _),(hG0.trans hG2).trans (Grown.of_below (bel_new _)),List.prefix_refl _,by omega,by omega⟩
 ·have hx2:=hG2.outs.blk hx1 hxn
  have hH:Hed 9 0 (n4 (s.data.toList.drop (p+1))) eB 2 (s.data.toList.drop (p+1)) (s.data.toList.drop (p+1+4)):=by
   have:=hed9 (s1:=s.data.toList.drop (p+1)) (by omega)
   rw [List.drop_drop] at this
   exact this
  have hxl:=n4_lt (s.data.toList.drop (p+1))
  generalize n4 (s.data.toList.drop (p+1))=x at hH hxl ⊢
  have hR3:=hR2.below (bel_new (.cells #[.int .i64 (x:Nat)] 3))
  have hx3:=hx2.below (bel_new (.cells #[.int .i64 (x:Nat)] 3)) hx2.lt
  have hy3:=Blk.new w2 3 #[.int .i64 (x:Nat)]
  have hyn:¬ SR b S w2.heap.size:=fun h9=>by have:=hR2.sr_lt _ h9;omega
  have HV:=hide (with5_any HIH.out hR3 (by omega) hx3 hxn hxl hy3 hyn Hd.out hq hH (by omega) hK)
  have hxc2:w2.cell? ⟨bx,0,none⟩=some (.pointer (some ⟨b,0,none⟩)):=hx2.cell 0
  have hxc3:(w2.alloc (.cells #[.int .i64 (x:Nat)] 3)).cell? ⟨bx,0,none⟩=some (.pointer (some ⟨b,0,none⟩)):=hx3.cell 0
  have hG3:=(hG0.trans hG2).trans (Grown.of_below (bel_new (.cells #[.int .i64 (x:Nat)] 3)))
  clear hx1 hx2 hx3 hy3 hR3 hR2 hH hG2 hxc
  go_wp2_with fail
  refine HV.out.mono ?_
  intro e w3 hg
  have hF:=hide ((hg.from_ (q:=p+1) (Grown.refl _ _) (by omega)).term hG3 hps)
  obtain ⟨T2,m,S2,p2,o2,rfl,_⟩:=hg
  go_wp2_with fail
  go_ret
  exact hF.out
theorem term_250 (IH:TermIH B b g s N) (h:Rd B b g s p T S w) (hN:s.size - p<N+1) (hd:s.data.toList.drop p=c :: s.data.toList.drop (p+1)) (hq:c.toNat=250) :
  Calls Tryz.prog 96 #[.pointer (some ⟨b,0,none⟩)] w (GotT B b g s p T S w):=by
 have HB:=hide (fun (W:World) (hb:Below w.heap.size w W)=>byte_yes (h.below hb) hd)
 have HIH:=hide IH
 have hsr:=h.sr_lt
 have hK:=h.few
 have hxn:¬ SR b S w.heap.size:=fun h9=>by have:=hsr _ h9;omega
 clear h IH hsr
 rw [hq] at HB
 go_enter Tryz.func96,Tryz.ntmps96
 go_wp2_with fail
 have hx0:=Blk.new w 176 #[.pointer (some ⟨b,0,none⟩)]
 have hb0:=bel_new (w:=w) (.cells #[.pointer (some ⟨b,0,none⟩)] 176)
 refine (HB.out _ hb0).mono ?_
 rintro e w1 ⟨rfl,hps,hR,hG⟩
 have hx1:=hG.outs.blk hx0 hxn
 have hG0:=(Grown.of_below (S:=SR b S) hb0).trans hG
 have hxc:w1.cell? ⟨w.heap.size,0,none⟩=some (.pointer (some ⟨b,0,none⟩)):=hx1.cell 0
 obtain ⟨bx,hbx⟩:∃bx,bx=w.heap.size:=⟨_,rfl⟩
 rw [←hbx] at hx1 hxc hxn ⊢
 clear hx0 hb0 hG HB hbx
 have Hd:=hide hd
 have hsz:=hR.hs
 have hlen:=hR.len
 clear hd
 by_cases h4:s.size<p+1+4
 ·have HC:=hide (counted_no1 hR 32 h4)
  clear hx1
  go_wp2_with fail
  refine HC.out.mono ?_
  rintro e w2 ⟨p1,rfl,hR2,hG2,hle⟩
  go_wp2_with fail
  go_ret
  exact ⟨T,-1,S,p1,none,rfl,idn_none _,readT_none (by rw [Hd.out];exact no10 hq (by omega)),hR2,hG0.trans hG2,List.prefix_refl _,by omega,by omega⟩
 ·obtain ⟨m,hm⟩:∃m,m=n4 (s.data.toList.drop (p+1)):=⟨_,rfl⟩
  have hH:Hed 10 0 0 eB m (s.data.toList.drop (p+1)) (s.data.toList.drop (p+1+4)):=by
   have:=hed10 (s1:=s.data.toList.drop (p+1)) (by omega)
   rw [List.drop_drop,← hm] at this
   exact this
  by_cases hm8:(32:Int)<(m:Int)
  ·have HC:=hide (counted_no2 hR 32 (by omega) hm hm8)
   clear hx1 hm
   go_wp2_with fail
   refine HC.out.mono ?_
   rintro e w2 ⟨p1,rfl,hR2,hG2,hle⟩
   go_wp2_with fail
   go_ret
   exact ⟨T,-1,S,p1,none,rfl,idn_none _,readT_none (by rw [Hd.out];exact hH.nohd hq (fun hh=>by simp only [hd] at hh;omega)),hR2,hG0.trans hG2,List.prefix_refl _,by omega,by omega⟩
  ·have HC:=hide (counted_yes HIH.out hR (by omega) 32 (by omega) hm (by omega) (by omega))
   have HH:=hide hH
   clear hH hm
   go_wp2_with fail
   refine HC.out.mono ?_
   rintro e w2 (⟨T1,S1,p1,rfl,hNo,hR2,hG2,hpre,hl,hle⟩ | ⟨T1,S1,p1,l,A,cz,rfl,hg,hml,he,hI,hR2,hG2,hpre,hl,hle⟩)
   ·clear hx1
    go_wp2_with fail
    go_ret
    exact ⟨T1,-1,S1,p1,none,rfl,idn_none _,readT_few Hd.out hq HH.out hNo,hR2,hG0.trans hG2,hpre,by omega,by omega⟩
   ·have hxc2:w2.cell? ⟨bx,0,none⟩=some (.pointer (some ⟨b,0,none⟩)):=(hG2.outs.blk hx1 hxn).cell 0
    have hbc2:=rd_cells hR2
    obtain ⟨ns,hids,hidn⟩:=hI.ids_
    have hargs:=hidn.args
    have hnl:=hidn.1
    have HL:=hide (aList_any hR2.use hids (by simp at hnl;omega))
    rw [hargs] at HL
    have HF:=hide (fun (e:Ending) (w3:World) hD=>got_fin (e:=e) (w2:=w3) (w:=w1) (p:=p+1+4) Hd.out hq (by omega) HH.out hg hml he hR2 hG2 hpre hl hle (madeOf_list l (by omega)) hD (by omega) hK)
    clear hx1 hR2 hI hids hidn hargs hnl hxc hG2
    go_wp2_with fail
    refine HL.out.mono ?_
    intro e w3 hD
    have hF:=hide (((HF.out e w3 hD).from_ (q:=p+1) (Grown.refl _ _) (by omega)).term hG0 hps)
    obtain ⟨T2,m2,S2,rfl,_⟩:=hD
    go_wp2_with fail
    go_ret
    exact hF.out
theorem term_241 (IH:TermIH B b g s N) (h:Rd B b g s p T S w) (hN:s.size - p<N+1) (hd:s.data.toList.drop p=c :: s.data.toList.drop (p+1)) (hq:c.toNat=241) :
  Calls Tryz.prog 96 #[.pointer (some ⟨b,0,none⟩)] w (GotT B b g s p T S w):=by
 have HB:=hide (fun (W:World) (hb:Below w.heap.size w W)=>byte_yes (h.below hb) hd)
 have HIH:=hide IH
 have hsr:=h.sr_lt
 have hK:=h.few
 have hxn:¬ SR b S w.heap.size:=fun h9=>by have:=hsr _ h9;omega
 clear h IH hsr
 rw [hq] at HB
 go_enter Tryz.func96,Tryz.ntmps96
 go_wp2_with fail
 have hx0:=Blk.new w 176 #[.pointer (some ⟨b,0,none⟩)]
 have hb0:=bel_new (w:=w) (.cells #[.pointer (some ⟨b,0,none⟩)] 176)
 refine (HB.out _ hb0).mono ?_
 rintro e w1 ⟨rfl,hps,hR,hG⟩
 have hx1:=hG.outs.blk hx0 hxn
 have hG0:=(Grown.of_below (S:=SR b S) hb0).trans hG
 have hxc:w1.cell? ⟨w.heap.size,0,none⟩=some (.pointer (some ⟨b,0,none⟩)):=hx1.cell 0
 obtain ⟨bx,hbx⟩:∃bx,bx=w.heap.size:=⟨_,rfl⟩
 rw [←hbx] at hx1 hxc hxn ⊢
 clear hx0 hb0 hG HB hbx
 have Hd:=hide hd
 have hsz:=hR.hs
 have hlen:=hR.len
 clear hd
 have HW:=hide (leaf_data hR Hd.out hq hK)
 clear hx1
 go_wp2_with fail
 refine HW.out.mono ?_
 intro e w2 hg
 have hF:=hide (hg.term hG0 hps)
 obtain ⟨T2,m,S2,p2,o2,rfl,_⟩:=hg
 go_wp2_with fail
 go_ret
 exact hF.out
theorem term_242 (IH:TermIH B b g s N) (h:Rd B b g s p T S w) (hN:s.size - p<N+1) (hd:s.data.toList.drop p=c :: s.data.toList.drop (p+1)) (hq:c.toNat=242) :
  Calls Tryz.prog 96 #[.pointer (some ⟨b,0,none⟩)] w (GotT B b g s p T S w):=by
 have HB:=hide (fun (W:World) (hb:Below w.heap.size w W)=>byte_yes (h.below hb) hd)
 have HIH:=hide IH
 have hsr:=h.sr_lt
 have hK:=h.few
 have hxn:¬ SR b S w.heap.size:=fun h9=>by have:=hsr _ h9;omega
 clear h IH hsr
 rw [hq] at HB
 go_enter Tryz.func96,Tryz.ntmps96
 go_wp2_with fail
 have hx0:=Blk.new w 176 #[.pointer (some ⟨b,0,none⟩)]
 have hb0:=bel_new (w:=w) (.cells #[.pointer (some ⟨b,0,none⟩)] 176)
 refine (HB.out _ hb0).mono ?_
 rintro e w1 ⟨rfl,hps,hR,hG⟩
 have hx1:=hG.outs.blk hx0 hxn
 have hG0:=(Grown.of_below (S:=SR b S) hb0).trans hG
 have hxc:w1.cell? ⟨w.heap.size,0,none⟩=some (.pointer (some ⟨b,0,none⟩)):=hx1.cell 0
 obtain ⟨bx,hbx⟩:∃bx,bx=w.heap.size:=⟨_,rfl⟩
 rw [←hbx] at hx1 hxc hxn ⊢
 clear hx0 hb0 hG HB hbx
 have Hd:=hide hd
 have hsz:=hR.hs
 have hlen:=hR.len
 clear hd
 have HW:=hide (leaf_nonce hR Hd.out hq hK)
 clear hx1
 go_wp2_with fail
 refine HW.out.mono ?_
 intro e w2 hg
 have hF:=hide (hg.term hG0 hps)
 obtain ⟨T2,m,S2,p2,o2,rfl,_⟩:=hg
 go_wp2_with fail
 go_ret
 exact hF.out
theorem term_243 (IH:TermIH B b g s N) (h:Rd B b g s p T S w) (hN:s.size - p<N+1) (hd:s.data.toList.drop p=c :: s.data.toList.drop (p+1)) (hq:c.toNat=243) :
  Calls Tryz.prog 96 #[.pointer (some ⟨b,0,none⟩)] w (GotT B b g s p T S w):=by
 have HB:=hide (fun (W:World) (hb:Below w.heap.size w W)=>byte_yes (h.below hb) hd)
 have HIH:=hide IH
 have hsr:=h.sr_lt
 have hK:=h.few
 have hxn:¬ SR b S w.heap.size:=fun h9=>by have:=hsr _ h9;omega
 clear h IH hsr
 rw [hq] at HB
 go_enter Tryz.func96,Tryz.ntmps96
 go_wp2_with fail
 have hx0:=Blk.new w 176 #[.pointer (some ⟨b,0,none⟩)]
 have hb0:=bel_new (w:=w) (.cells #[.pointer (some ⟨b,0,none⟩)] 176)
 refine (HB.out _ hb0).mono ?_
 rintro e w1 ⟨rfl,hps,hR,hG⟩
 have hx1:=hG.outs.blk hx0 hxn
 have hG0:=(Grown.of_below (S:=SR b S) hb0).trans hG
 have hxc:w1.cell? ⟨w.heap.size,0,none⟩=some (.pointer (some ⟨b,0,none⟩)):=hx1.cell 0
 obtain ⟨bx,hbx⟩:∃bx,bx=w.heap.size:=⟨_,rfl⟩
 rw [←hbx] at hx1 hxc hxn ⊢
 clear hx0 hb0 hG HB hbx
 have Hd:=hide hd
 have hsz:=hR.hs
 have hlen:=hR.len
 clear hd
 have HW:=hide (leaf_key hR Hd.out hq hK)
 clear hx1
 go_wp2_with fail
 refine HW.out.mono ?_
 intro e w2 hg
 have hF:=hide (hg.term hG0 hps)
 obtain ⟨T2,m,S2,p2,o2,rfl,_⟩:=hg
 go_wp2_with fail
 go_ret
 exact hF.out
end
theorem w64_id {x:Int} (h1:-9223372036854775808≤x) (h2:x<9223372036854775808):wrap64 x=x:=by
 unfold wrap64
 omega
theorem w64_q {q:Nat} (h:q<256):wrap64 (q:Int)=q:=w64_id (by omega) (by omega)
theorem w64_k {q:Nat} (h:q<256):wrap64 ((q:Int) - 240)=(q:Int) - 240:=w64_id (by omega) (by omega)
section
variable {B b g p p0 N : Nat} {s : ByteArray} {T : List Tm} {S : Nat → Prop} {w w0 w1 w2 : World} {c : UInt8} {s1 : List UInt8}
theorem term_other (IH:TermIH B b g s N) (h:Rd B b g s p T S w) (hN:s.size - p<N+1) (hd:s.data.toList.drop p=c :: s.data.toList.drop (p+1)) {q:Nat} (hq:q=c.toNat) (k241:¬ q=241) (k242:¬ q=242) (k243:¬ q=243) (k244:¬ q=244) (k245:¬ q=245) (k246:¬ q=246) (k247:¬ q=247) (k248:¬ q=248) (k249:¬ q=249) (k250:¬ q=250) :
  Calls Tryz.prog 96 #[.pointer (some ⟨b,0,none⟩)] w (GotT B b g s p T S w):=by
 have HB:=hide (fun (W:World) (hb:Below w.heap.size w W)=>byte_yes (h.below hb) hd)
 have HIH:=hide IH
 have hsr:=h.sr_lt
 have hK:=h.few
 have hxn:¬ SR b S w.heap.size:=fun h9=>by have:=hsr _ h9;omega
 clear h IH hsr
 have hcl:=c.toNat_lt
 rw [←hq] at HB
 go_enter Tryz.func96,Tryz.ntmps96
 go_wp2_with fail
 have hx0:=Blk.new w 176 #[.pointer (some ⟨b,0,none⟩)]
 have hb0:=bel_new (w:=w) (.cells #[.pointer (some ⟨b,0,none⟩)] 176)
 refine (HB.out _ hb0).mono ?_
 rintro e w1 ⟨rfl,hps,hR,hG⟩
 have hx1:=hG.outs.blk hx0 hxn
 have hG0:=(Grown.of_below (S:=SR b S) hb0).trans hG
 have hxc:w1.cell? ⟨w.heap.size,0,none⟩=some (.pointer (some ⟨b,0,none⟩)):=hx1.cell 0
 obtain ⟨bx,hbx⟩:∃bx,bx=w.heap.size:=⟨_,rfl⟩
 rw [←hbx] at hx1 hxc hxn ⊢
 clear hx0 hb0 hG HB hbx
 have Hd:=hide hd
 have hsz:=hR.hs
 have hlen:=hR.len
 clear hd
 have f4:((q:Int) - 240 == 4)=false:=by simp only [beq_eq_false_iff_ne,ne_eq];omega
 have f5:((q:Int) - 240 == 5)=false:=by simp only [beq_eq_false_iff_ne,ne_eq];omega
 have f6:((q:Int) - 240 == 6)=false:=by simp only [beq_eq_false_iff_ne,ne_eq];omega
 have f7:((q:Int) - 240 == 7)=false:=by simp only [beq_eq_false_iff_ne,ne_eq];omega
 have f8:((q:Int) - 240 == 8)=false:=by simp only [beq_eq_false_iff_ne,ne_eq];omega
 have f9:((q:Int) - 240 == 9)=false:=by simp only [beq_eq_false_iff_ne,ne_eq];omega
 have f10:((q:Int) - 240 == 10)=false:=by simp only [beq_eq_false_iff_ne,ne_eq];omega
 have HW:=hide (leaf_other hR ((q:Int) - 240) (by omega) (by omega) (by omega) (by rw [Hd.out];exact noT_kind (by omega)))
 have h256:q<256:=by rw [hq];exact hcl
 have wq:wrap64 (q:Int)=q:=w64_q h256
 have wr:wrap64 ((q:Int) - 240)=(q:Int) - 240:=w64_k h256
 clear hx1 hq hcl
 go_upto_region 5 with fail
 go_wp2_with fail
 refine HW.out.mono ?_
 intro e w2 hg
 have hF:=hide (hg.term hG0 hps)
 obtain ⟨T2,m,S2,p2,o2,rfl,_⟩:=hg
 go_wp2_with fail
 go_ret
 exact hF.out
theorem term_step (IH:TermIH B b g s N) (h:Rd B b g s p T S w) (hN:s.size - p<N+1) :
  Calls Tryz.prog 96 #[.pointer (some ⟨b,0,none⟩)] w (GotT B b g s p T S w):=by
 by_cases hlt:p<s.size
 ·have hd:=drop_cons (s:=s.data.toList) (p:=p) hlt
  generalize s.data.toList[p]'hlt=c at hd
  by_cases k241:c.toNat=241
  ·exact term_241 IH h hN hd k241
  by_cases k242:c.toNat=242
  ·exact term_242 IH h hN hd k242
  by_cases k243:c.toNat=243
  ·exact term_243 IH h hN hd k243
  by_cases k244:c.toNat=244
  ·exact term_244 IH h hN hd k244
  by_cases k245:c.toNat=245
  ·exact term_245 IH h hN hd k245
  by_cases k246:c.toNat=246
  ·exact term_246 IH h hN hd k246
  by_cases k247:c.toNat=247
  ·exact term_247 IH h hN hd k247
  by_cases k248:c.toNat=248
  ·exact term_248 IH h hN hd k248
  by_cases k249:c.toNat=249
  ·exact term_249 IH h hN hd k249
  by_cases k250:c.toNat=250
  ·exact term_250 IH h hN hd k250
  exact term_other IH h hN hd rfl k241 k242 k243 k244 k245 k246 k247 k248 k249 k250
 ·exact term_end h (by have:=h.hp;omega)
theorem term_any (b g B:Nat) (s:ByteArray):∀N,TermIH B b g s N:=by
 intro N
 induction N with
 | zero=>exact fun p T S w h=>absurd h (by omega)
 | succ N ih=>exact fun p T S w hN h=>term_step ih h hN
end
def DecP (B:Nat) (w:World) (g:Nat) (s:ByteArray) (T:List Tm) (S:Nat→Prop) (e:Ending) (w':World):Prop :=
 ∃T' S' n k o,e=.returned (.tuple #[.int .i64 n,.int .i64 k])∧Idn T' o n∧((∃t,o=some t∧good t∧s.data.toList=enc t∧k=0)∨(o=none∧k=3∧∀t,good t→s.data.toList≠enc t))∧Ar B w' g T' S'∧Grown S w S' w'∧T <+: T'∧T'.length≤T.length+2*s.size
theorem readT_whole {s:ByteArray} {o:Option Tm} {p':Nat} (h:ReadT s 0 o p') (hp:p'≤s.size):(∃t,o=some t∧p'=s.size∧good t∧s.data.toList=enc t)∨((o=none∨p'≠s.size)∧∀t,good t→s.data.toList≠enc t):=by
 rcases h with ⟨rfl,h⟩ | ⟨t,rfl,h1,h2⟩
 ·exact .inr ⟨.inl rfl,fun t ht e=>h t [] ht (by rw [List.drop_zero,e,List.append_nil])⟩
 ·rw [List.drop_zero] at h2
  by_cases hs:p'=s.size
  ·refine .inl ⟨t,rfl,hs,h1,?_⟩
   rw [h2,List.drop_of_length_le (by rw [size_len];omega),List.append_nil]
  ·refine .inr ⟨.inr hs,fun u hu e=>?_⟩
   have h3:enc t++s.data.toList.drop p'=enc u++[]:=by rw [←h2,e,List.append_nil]
   have h4:=congrArg List.length (enc_inj t u _ _ h1 hu h3).2
   rw [List.length_drop,size_len] at h4
   simp at h4
   omega
section
variable {B g : Nat} {s : ByteArray} {T : List Tm} {S : Nat → Prop} {w : World}
theorem decode_any (h:Use B w g T S) (hs:s.size≤131072) (hT:T.length≤800000000):Calls Tryz.prog 50 #[.pointer (some ⟨g,0,none⟩),.string s] w (DecP B w g s T S):=by
 have hR:Rd B w.heap.size g s 0 T S (w.alloc (.cells #[.pointer (some ⟨g,0,none⟩),.string s,.int .i64 0] 178)) :=
  ⟨h.below (bel_new _),Blk.new _ _ _,fun h9=>by have:=h.ar.sL _ h9;omega,h.base,Nat.zero_le _,hs,by omega⟩
 have HT:=hide (term_any w.heap.size g B s (s.size+1) 0 T S _ (by omega) hR)
 have hS:=h.ar.sL
 have hle:¬ (131072:Int)<s.size:=by omega
 clear h hR
 go_enter Tryz.func50,Tryz.ntmps50
 go_wp2_with fail
 refine HT.out.mono ?_
 rintro e w1 ⟨T',n,S',p',o,rfl,hid,hrd,hR,hG,hpre,hl,hle⟩
 have hw:=readT_whole hrd hR.hp
 have hp:=hR.hp
 have hc2:w1.cell? ⟨w.heap.size,2,none⟩=some (.int .i64 p'):=Blk.cell hR.bk 2
 have hG2:Grown S w S' w1:=by
  have h2:=(Grown.of_below (S:=SR w.heap.size S) (bel_new (w:=w) (.cells #[.pointer (some ⟨g,0,none⟩),.string s,.int .i64 0] 178))).trans hG
  have hnb:=hR.nb
  refine ⟨h2.os,h2.tape,h2.output,h2.size,fun i hi hn=>h2.block i hi (fun h3=>?_),fun i hi=>?_,fun i hi=>?_⟩
  ·rcases h3 with h3 | h3
   ·exact hn h3
   ·omega
  ·rcases h2.sub i (.inl hi) with h3 | h3
   ·exact h3
   ·have:=hS i hi;omega
  ·rcases h2.new i (.inl hi) with h3 | h3
   ·rcases h3 with h3 | h3
    ·exact .inl h3
    ·exact absurd (h3 ▸ hi) hnb
   ·exact .inr h3
 have hA:=hR.use.ar
 have HA:=hide hA
 clear hR hG HT hA
 rcases hw with ⟨t,rfl,rfl,ht,he⟩ | ⟨hor,hno⟩
 ·have hn1:¬ n=-1:=fun h9=>by have:=hid.none_iff.1 h9;cases this
  go_wp2_with fail
  go_ret2
  exact ⟨T',S',n,0,some t,rfl,hid,.inl ⟨t,rfl,ht,he,rfl⟩,HA.out,hG2,hpre,by omega⟩
 ·have hne:n=-1∨¬ n=-1∧¬ (p':Int)=s.size:=by
   by_cases h9:n=-1
   ·exact .inl h9
   ·refine .inr ⟨h9,fun h10=>?_⟩
    rcases hor with rfl | h11
    ·exact h9 (hid.2 rfl)
    ·omega
  rcases hne with rfl | ⟨hn1,hne⟩
  ·go_wp2_with fail
   go_ret2
   exact ⟨T',S',-1,3,none,rfl,idn_none _,.inr ⟨rfl,rfl,hno⟩,HA.out,hG2,hpre,by omega⟩
  ·go_wp2_with fail
   go_ret2
   exact ⟨T',S',-1,3,none,rfl,idn_none _,.inr ⟨rfl,rfl,hno⟩,HA.out,hG2,hpre,by omega⟩
end
section
variable {B g mb : Nat} {w w' : World} {T : List Tm} {S R : Nat → Prop} {nv sv : Value} {rows : List (List Value)} {D : DataW Unit}
theorem Ar.apart (h:Ar B w g T S) (ho:Outs R w w') (hd:∀i,S i→¬ R i):Ar B w' g T S:=by
 obtain ⟨nv,sv,mb,rows,D,h⟩:=h
 refine ⟨nv,sv,mb,rows,D,h.ok,ho.blk h.blk (hd _ h.sg),ho.own h.nodes (fun i hi=>hd i (h.sn i hi)),h.nrows,fun i t us hi hu=>?_,ho.own h.sizes (fun i hi=>hd i (h.ss i hi)),?_,h.idx,h.sg,h.sm,h.sn,h.ss,h.sB,fun i hi=>Nat.lt_of_lt_of_le (h.sL i hi) ho.size⟩
 ·obtain ⟨av,js,e,ha,hown,hs⟩:=h.node i t us hi hu
  exact ⟨av,js,e,ha,ho.own hown (fun i hi=>hd i (hs i hi)),hs⟩
 ·obtain ⟨es,clock,hb,hr⟩:=h.map
  exact ⟨es,clock,(ho.block mb (h.sL mb h.sm) (hd mb h.sm)).trans hb,hr⟩
end
structure Duo (w:World) (Ba ga:Nat) (Ta:List Tm) (Sa:Nat→Prop) (Bb gb:Nat) (Tb:List Tm) (Sb:Nat→Prop) (W:World):Prop where
 tab:Tab w
 bel:Below w.heap.size w W
 a1:Ar Ba W ga Ta Sa
 a2:Ar Bb W gb Tb Sb
 b1:w.heap.size≤Ba
 b2:w.heap.size≤Bb
 c1:Ba≤W.heap.size
 c2:Bb≤W.heap.size
 d:∀i,Sa i→¬ Sb i
 f1:Ta.length≤1000000000
 f2:Tb.length≤1000000000
section
variable {Ba ga Bb gb : Nat} {w W W' : World} {Ta Ta' Tb Tb' : List Tm} {Sa Sa' Sb Sb' : Nat → Prop}
theorem Duo.below (h:Duo w Ba ga Ta Sa Bb gb Tb Sb W) (hb:Below W.heap.size W W'):Duo w Ba ga Ta Sa Bb gb Tb Sb W' :=
 ⟨h.tab,h.bel.trans (hb.mono h.bel.size),h.a1.below hb,h.a2.below hb,h.b1,h.b2,Nat.le_trans h.c1 hb.size,Nat.le_trans h.c2 hb.size,h.d,h.f1,h.f2⟩
end
section
variable {B g : Nat} {T : List Tm} {S : Nat → Prop} {w : World}
theorem use_new2 {w w0 w':World} {g:Nat} {S:Nat→Prop} (hT:Tab w0) (hb0:Below w0.heap.size w0 w) (h:Ar w.heap.size w' g [] S) (hb:Below w.heap.size w w'):Use w.heap.size w' g [] S :=
 ⟨h,⟨w0,hT,hb0.size,hb0.trans (hb.mono hb0.size)⟩,hb.size,Nat.zero_le _⟩
end
theorem head_at {s:ByteArray} {t:Tm} (ht:good t) (he:s.data.toList=enc t):0<s.size∧∀h:0<s.size,s[0].toNat=240+t.k:=by
 obtain ⟨r,hr⟩:=enc_head t ht
 have hk:=good_k ht
 have hl:=size_len s
 rw [he,hr] at hl
 have hp:0<s.size:=by
  rw [←hl]
  simp
 refine ⟨hp,fun h=>?_⟩
 have h0:s.data.toList=s[0] :: s.data.toList.drop 1:=by
  have:=drop_cons (s:=s.data.toList) (p:=0) h
  rw [List.drop_zero] at this
  exact this
 rw [he,hr] at h0
 injection h0 with h1 _
 rw [←h1,UInt8.toNat_ofNat']
 omega
section
variable {w : World}
theorem opq_any (hT:Tab w) (x:ByteArray) (hs:x.size≤131072):Calls Tryz.prog 49 #[.string x] w (fun e w'=>∃r,e=.returned (.bool r)∧(r=true↔∃t,good t∧x.data.toList=enc t∧t.k≠1)∧Below w.heap.size w w'):=by
 have HN:=hide (new_any w)
 have HT:=hide hT
 have Hx:=hide (fun (W:World) (B g:Nat) (S:Nat→Prop) (hU:Use B W g [] S)=>decode_any hU hs (by simp))
 clear hT
 by_cases h0:x.size=0
 ·have hxn:x.data.toList=[]:=List.eq_nil_of_length_eq_zero (by rw [size_len];exact h0)
  have hx1:(x.toList == [])=true:=by rw [ByteArray.toList_eq,hxn];rfl
  have Hxn:=hide hxn
  clear hxn h0
  go_enter Tryz.func49,Tryz.ntmps49
  go_wp2_with fail
  go_ret
  refine ⟨false,rfl,?_,Below.refl _ _⟩
  simp only [Bool.false_eq_true,false_iff]
  rintro ⟨t,ht,he,_⟩
  exact enc_ne t (he.symm.trans Hxn.out)
 ·have hi:(0:Int)<x.size:=by omega
  have hx1:(x.toList == [])=false:=by
   rw [beq_eq_false_iff_ne,ByteArray.toList_eq]
   intro e
   have:=size_len x
   rw [e] at this
   simp at this
   omega
  have Hh:=hide (fun t ht he=>(head_at (s:=x) (t:=t) ht he).2 (by omega))
  clear h0
  have hxp:0<x.size:=by omega
  by_cases hq':(((x[0]'hxp).toNat:Nat):Int)=241
  ·have hqb:((((x[0]'hxp).toNat:Nat):Int) == 241)=true:=by rw [beq_iff_eq];exact hq'
   have Hq:=hide hq'
   clear hq'
   go_enter Tryz.func49,Tryz.ntmps49
   go_wp2_with fail
   have hq':=Hq.out
   go_ret
   refine ⟨false,rfl,?_,Below.refl _ _⟩
   simp only [Bool.false_eq_true,false_iff]
   rintro ⟨t,ht,he,hk⟩
   have:=Hh.out t ht he
   omega
  ·have hqb:((((x[0]'hxp).toNat:Nat):Int) == 241)=false:=by rw [beq_eq_false_iff_ne];exact hq'
   have Hq:=hide hq'
   clear hq'
   go_enter Tryz.func49,Tryz.ntmps49
   go_wp2_with fail
   have hq':=Hq.out
   refine HN.out.mono ?_
   rintro e w1 ⟨g,S,rfl,hA,hb1⟩
   have hU:Use w.heap.size w1 g [] S:=use_new2 HT.out (Below.refl _ _) hA hb1
   have hD:=hide (Hx.out w1 w.heap.size g S hU)
   clear hU hA
   go_wp2_with fail
   refine hD.out.mono ?_
   rintro e w2 ⟨T',S',n,k,o,rfl,hid,ho,hA2,hG2,_,_⟩
   have hsB:=hA2.sB
   have hb2:=hG2.below hb1.size (fun i hi=>hsB i (hG2.sub i hi))
   rcases ho with ⟨t,rfl,ht,he,rfl⟩ | ⟨rfl,rfl,hno⟩
   ·go_wp2_with fail
    go_ret
    refine ⟨true,rfl,?_,hb1.trans hb2⟩
    simp only [true_iff]
    refine ⟨t,ht,he,fun hk=>?_⟩
    have:=Hh.out t ht he
    omega
   ·go_wp2_with fail
    go_ret
    refine ⟨false,rfl,?_,hb1.trans hb2⟩
    simp only [Bool.false_eq_true,false_iff]
    rintro ⟨t,ht,he,_⟩
    exact hno t ht he
end
end Go.Proofs.YtnhekaepgpbijaaGreatDoor
