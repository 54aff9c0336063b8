/- Several of my texts in one: AcG, AcK, AcTp, AcSp. -/
import Derived.Test.YtnhekaepgpbijaaGreatDoorJAcTG
import Derived.Test.YtnhekaepgpbijaaGreatDoorJSignCG
import Derived.BigQuiet
import Derived.Test.YtnhekaepgpbijaaGreatDoorJAcMG
import Derived.Test.YtnhekaepgpbijaaGreatDoorJCfBG
set_option linter.unusedVariables false
set_option linter.unusedSimpArgs false
set_option maxHeartbeats 40000000
set_option maxRecDepth 100000
namespace Go.Proofs.YtnhekaepgpbijaaGreatDoor
open Go.RowKit Go.ChangeShapes Go.WideShapes Go.Sort
theorem iq {s:ByteArray} {t:Tm} (h:aO s=some t):t=.mk 1 0 0 s []:=by
 unfold aO lim at h
 split at h
 ·exact (Option.some.inj h).symm
 ·cases h
theorem Qd {who:Int} {t:Tm} (h:gG (dW who)=some t):(enc t).length≤100:=by
 unfold dW at h
 split at h
 ·obtain rfl:=Option.some.inj h
  simp [enc,encs,head,mid,q4]
 ·cases h
theorem Lb {o:Option Tm} {user service alg:ByteArray} {who:Int} {t:Tm} (h:kW o user service alg who=some t) (ho:∀u,o=some u→(enc u).length≤1000):(enc t).length≤user.size+service.size+2*alg.size+1500:=by
 obtain ⟨_,r,hr,rfl⟩:=xk h;have hl:=congrArg List.length hr;simp only [Ou,List.length_cons,List.length_nil,List.length_map] at hl
 match r,hl with
 | [a0,a1,a2,a3,a4,a5,a6,a7],_ =>
  simp only [Ou,List.map_cons,List.map_nil,List.cons.injEq,and_true] at hr;obtain ⟨h0,h1,h2,h3,h4,h5,h6,h7⟩:=hr;have z0:=ho _ h0;have z7:=Qd h7;obtain rfl:=iq h1;obtain rfl:=iq h2;obtain rfl:=iq h3;obtain rfl:=iq h4;obtain rfl:=iq h5;obtain rfl:=iq h6;have y1:=jg mO;have y2:=jg user;have y3:=jg service;have y4:=jg mF;have y5:=jg mJ;have y6:=jg alg;have s1:mO.size≤100:=by decide
  have s4:mF.size≤100:=by decide
  have s5:mJ.size≤100:=by decide
  have key:(enc (.mk 6 0 0 alg [.mk 3 who.toNat 0 eB [],.mk 10 0 0 eB [a0,.mk 1 0 0 mO [],.mk 1 0 0 user [],.mk 1 0 0 service [],.mk 1 0 0 mF [],.mk 1 0 0 mJ [],.mk 1 0 0 alg [],a7]])).length=1+(4+alg.size)+(5+(5+((enc a0).length+((enc (.mk 1 0 0 mO [])).length+((enc (.mk 1 0 0 user [])).length+((enc (.mk 1 0 0 service [])).length+((enc (.mk 1 0 0 mF [])).length+((enc (.mk 1 0 0 mJ [])).length+((enc (.mk 1 0 0 alg [])).length+(enc a7).length))))))))):=by
   simp only [enc,encs,head,mid,List.length_append,List.length_cons,List.length_nil,bU,aD];omega
  omega
theorem O7 {o:Option Tm} {user service alg:ByteArray} {who:Int} {t:Tm} (h:kW o user service alg who=some t) (ho:∀u,o=some u→(enc u).length≤1000) (h1:user.size≤1000) (h2:service.size≤1000) (h3:alg.size≤1000):mQ t=some (kT t)∧(kT t).length≤100000:=by
 have hk:t.k≠1:=by
  obtain ⟨_,r,_,rfl⟩:=xk h;exact (show (6:Nat)≠1 by decide)
 have hb:=Dh hk;have hs:kT t=enc t:=by unfold kT;rw [hb];rfl
 rw [hs];exact ⟨hb,by have:=Lb h ho;omega⟩
section
variable {q : ClQ} {T T' : List Tm} {S S' : Nat → Prop} {s : bS} {z : TkP} {W W' : World}
theorem BM (h:kW q.sid (bs q.us) (bs bA) (bs s.alg) (bT q.ky (s.tried - 1))=none):rz q.us q.ky q.sid s=eZ s [rY] 2:=by unfold rz;rw [h]
theorem AP {t:Tm} (h:kW q.sid (bs q.us) (bs bA) (bs s.alg) (bT q.ky (s.tried - 1))=some t):rz q.us q.ky q.sid s=pK 50 (gQ q.us s.alg (fI (bT q.ky (s.tried - 1))) 1++[⟨116,0,kT t,[]⟩]) ⟨3,s.told,s.taken,s.tried,s.alg⟩ (some (3,bT q.ky (s.tried - 1),s.alg)):=by unfold rz;rw [h]
theorem Dm (h:aI q T S s z W) (h1:1≤s.tried) (hT:T.length≤700000) (hn:kW q.sid (bs q.us) (bs bA) (bs s.alg) (bT q.ky (s.tried - 1))=none):Calls Tryz.prog 133 #[.pointer (some ⟨q.b,0,none⟩)] W (vO q T S z W 100 (rz q.us q.ky q.sid s)):=by
 have E:=hide (BM (q:=q) (s:=s) hn);rw [E.out];have HK:=hide (fun (V:World) (hb:Below W.heap.size W V)=>(jm (h.below hb) h1).mono fun e w' h9=>(show e=.returned (.int .i64 (bT q.ky (s.tried - 1)))∧Below W.heap.size W w' from ⟨h9.1,hb.trans (h9.2.mono hb.size)⟩));have HU:=hide (fun (V:World) (hb:Below W.heap.size W V)=>yg (h.pay.use.below hb) h.id (user:=bs q.us) (service:=bs bA) (alg:=bs s.alg) (by have:=h.ok.us2;rw [aR];omega) (by rw [aR];decide) (by have:=h.alz;rw [aR];omega) (bT q.ky (s.tried - 1)) (by omega));rw [hn] at HU;rw [show bs bA=⟨#[115,115,104,45,99,111,110,110,101,99,116,105,111,110]⟩ from rfl] at HU;have c0:=h.c0;have c17:=h.c17;have c24:=h.c24;have c29:=h.c29;have HO:=hide (fun (V:World)=>bH ⟨#[115,105,103,110,97,116,117,114,101]⟩ 2 (by decide) V);have HM:=hide h;have nb:¬ S q.b:=h.zone.no h.lob (Nat.lt_succ_self _);generalize bT q.ky (s.tried - 1)=who at HK HU;generalize bs q.us=us at c17 HU;generalize bs s.alg=al at c29 HU;have HC:=hide (And.intro c0 (And.intro c17 (And.intro c24 c29)));clear h h1 hn;go_enter Tryz.func133,Tryz.ntmps133;go_upto_region 1 with fail
 go_region_held3 (fun V=>V.cell? ⟨q.b,0,none⟩=some (.pointer (some ⟨q.g,0,none⟩))∧V.cell? ⟨q.b,17,none⟩=some (.string us)∧V.cell? ⟨q.b,24,none⟩=some (.int .i64 q.n)∧V.cell? ⟨q.b,29,none⟩=some (.string al))
  (exact ⟨c0,c17,c24,c29⟩)
  (first
   | (go_at_call 132;refine (HK.out _ (by exact aa)).mono ?_;rintro e wq ⟨rfl,hbq⟩;replace c0:=dh hbq HC.out.1;replace c17:=dh hbq HC.out.2.1;replace c24:=dh hbq HC.out.2.2.1;replace c29:=dh hbq HC.out.2.2.2)
   | (go_at_call 56;refine (HU.out _ (by exact aa)).mono ?_;rintro e w3 ⟨T3,n3,S3,rfl,hi3,hp3,hl3,hA3,hG3⟩;replace c0:=hG3.outs.cell c0 nb;replace c17:=hG3.outs.cell c17 nb;replace c24:=hG3.outs.cell c24 nb;replace c29:=hG3.outs.cell c29 nb)
   | fail)
 have hn3:n3=-1:=hi3.none_iff.2 rfl;subst hn3;have hGG:=(Grown.of_below (S:=S) hbq).trans hG3;have hPP:=(HM.out.pay.below hbq).grown hG3 hA3 (by omega);have HM3:=hide (HM.out.grown hGG hPP hp3);have HG3:=hide (hGG.sb q.b q.b);have Hp:=hide (And.intro hp3 hl3);clear hGG hPP hi3 hp3 hl3 hA3 hG3 c0 c17 c24 c29 HC HU HK hbq;go_wp2_with fail;refine (HO.out _).mono ?_;rintro e w4 ⟨b,rfl,hi4,hb4⟩;have Hi:=hide (And.intro hi4 hb4);clear hi4 hb4;go_wp2_with fail;go_ret2;exact ⟨T3,S3,aH b,rfl,Hi.out.1,Hp.out.1,(by have:=Hp.out.2;omega),HM3.out.below Hi.out.2,HG3.out.trans ((Grown.of_below Hi.out.2).sb _ _)⟩
theorem Lu {w:World} {lo b n:Nat} {t:TypeId} {xs:List Value} (h:Blk w b t xs.toArray) (hl:lo≤b) (hx:xs.length=n*4) (hm:n≤maxLen):w.ownsRow lo t 4 (.slice (some ⟨b,0,none⟩) n n) n xs :=
 ⟨hx,.inr ⟨b,n,xs.toArray,rfl,hl,h,Nat.le_refl _,hm,by simpa using hx,by rw [List.take_of_length_le (by simp [hx])]⟩⟩
theorem Au {w:World} {lo n d:Nat} {A:Option Addr} {l:List Fld} (h:w.ownsRow lo 60 4 (.slice A n d) n (l.flatMap iV)) (hl:∀x∈l,x.l=[]∧x.k<256) (hn:n=l.length) (h1:1≤l.length):kR w A l:=by
 obtain ⟨g,cap,hv,_,hlt⟩:=h.form (by omega);have hA:A=some ⟨g,0,none⟩:=by injection hv
 subst hA;have hcl:=h.cells (g:=g) rfl;refine ⟨fun i x hx=>?_⟩
 have hc:∀j v,j<4→(iV x)[j]?=some v→w.cell? ⟨g,i*4+j,none⟩=some v:=fun j v hj hv2=>by
  have:=hcl (i*4+j) v (by rw [Km l i j hj,hx];exact hv2);rwa [bJ] at this
 obtain ⟨hx1,hx2⟩:=hl x (List.mem_of_getElem? hx);refine ⟨⟨g,0,none⟩,.slice none 0 0,rfl,hlt,?_⟩;rw [bJ];exact ⟨hc 0 _ (by omega) rfl,hc 1 _ (by omega) rfl,hc 2 _ (by omega) rfl,hc 3 _ (by omega) rfl,by rw [hx1];exact yU w 0,hx2⟩
theorem Fj (h:aI q T S s z W) (h1:1≤s.tried) (hT:T.length≤700000) {t:Tm} (hn:kW q.sid (bs q.us) (bs bA) (bs s.alg) (bT q.ky (s.tried - 1))=some t):Calls Tryz.prog 133 #[.pointer (some ⟨q.b,0,none⟩)] W (vO q T S z W 100 (rz q.us q.ky q.sid s)):=by
 have E:=hide (AP (q:=q) (s:=s) hn);rw [E.out];have hsg:=O7 hn h.ok.sidz (by have:=h.ok.us2;rw [aR];omega) (by rw [aR];decide) (by have:=h.alz;rw [aR];omega);have Hsg:=hide hsg;have HK:=hide (fun (V:World) (hb:Below W.heap.size W V)=>(jm (h.below hb) h1).mono fun e w' h9=>(show e=.returned (.int .i64 (bT q.ky (s.tried - 1)))∧Below W.heap.size W w' from ⟨h9.1,hb.trans (h9.2.mono hb.size)⟩));have HU:=hide (fun (V:World) (hb:Below W.heap.size W V)=>yg (h.pay.use.below hb) h.id (user:=bs q.us) (service:=bs bA) (alg:=bs s.alg) (by have:=h.ok.us2;rw [aR];omega) (by rw [aR];decide) (by have:=h.alz;rw [aR];omega) (bT q.ky (s.tried - 1)) (by omega));rw [hn] at HU;rw [show bs bA=⟨#[115,115,104,45,99,111,110,110,101,99,116,105,111,110]⟩ from rfl] at HU;have c0:=h.c0;have c17:=h.c17;have c24:=h.c24;have c29:=h.c29;have HM:=hide h;have nb:¬ S q.b:=h.zone.no h.lob (Nat.lt_succ_self _);have hus:=h.ok.us2;have hal:=h.alz;generalize hw:bT q.ky (s.tried - 1)=who at HK HU;generalize hu:bs q.us=us at c17 HU;generalize ha:bs s.alg=al at c29 HU;have HC:=hide (And.intro c0 (And.intro c17 (And.intro c24 c29)));have Hw:=hide hw;clear h hn hw hu ha hsg;go_enter Tryz.func133,Tryz.ntmps133;go_upto_region 1 with fail
 go_region_held3 (fun V=>V.cell? ⟨q.b,0,none⟩=some (.pointer (some ⟨q.g,0,none⟩))∧V.cell? ⟨q.b,17,none⟩=some (.string us)∧V.cell? ⟨q.b,24,none⟩=some (.int .i64 q.n)∧V.cell? ⟨q.b,29,none⟩=some (.string al))
  (exact ⟨c0,c17,c24,c29⟩)
  (first
   | (go_at_call 132;refine (HK.out _ (by exact aa)).mono ?_;rintro e wq ⟨rfl,hbq⟩;replace c0:=dh hbq HC.out.1;replace c17:=dh hbq HC.out.2.1;replace c24:=dh hbq HC.out.2.2.1;replace c29:=dh hbq HC.out.2.2.2)
   | (go_at_call 56;refine (HU.out _ (by exact aa)).mono ?_;rintro e w3 ⟨T3,n3,S3,rfl,hi3,hp3,hl3,hA3,hG3⟩;replace c0:=hG3.outs.cell c0 nb;replace c17:=hG3.outs.cell c17 nb;replace c24:=hG3.outs.cell c24 nb;replace c29:=hG3.outs.cell c29 nb)
   | fail)
 have hn3:(n3 == -1)=false:=by
  rw [beq_eq_false_iff_ne];intro e;cases hi3.none_iff.1 e
 have hGG:=(Grown.of_below (S:=S) hbq).trans hG3;have hPP:=(HM.out.pay.below hbq).grown hG3 hA3 (by omega);have hM3:=HM.out.grown hGG hPP hp3;have HM3:=hide hM3;have HG3:=hide (hGG.sb q.b q.b);have Hp:=hide (And.intro hp3 hl3);have HA:=hide (ul hM3 h1 (by omega) 1);have HI:=hide hi3;clear hGG hPP hi3 hp3 hA3 hG3 c0 c17 c24 c29 HC HU HK hbq hM3 nb;unfold QC at HA;go_wp2_with fail;refine HA.out.mono ?_;rintro e w4 ⟨b,T4,S4,rfl,hB4,hb4,nb4,hp4,hl4,hM4,hG4⟩
 obtain ⟨w5,hw5⟩:∃W5,W5=w4.alloc (.cells #[.int .i64 50,.slice (some ⟨b,0,none⟩) 6 6] 55):=⟨_,rfl⟩
 have hb5:Below w4.heap.size w4 w5:=by rw [hw5];exact az _
 have hX5:Blk w5 w4.heap.size 55 #[.int .i64 50,.slice (some ⟨b,0,none⟩) 6 6]:=by rw [hw5];exact Blk.new w4 _ _
 have hM5:=hM4.below hb5;have c0:=hM5.c0;have hi4:=HI.out.pre hp4;have HB:=uw hM5.pay.ar hM5.pay.use.tab n3;rw [hi4.1] at HB;have HB:Calls Tryz.prog 206 #[.pointer (some ⟨q.g,0,none⟩),.int .i64 n3] w5 (ByP (mQ t) w5):=HB;rw [Hsg.out.1] at HB;have HB:=hide (show Calls Tryz.prog 206 #[.pointer (some ⟨q.g,0,none⟩),.int .i64 n3] w5 (fun e w'=>e=.returned (.tuple #[.string (bs (kT t)),.bool true])∧Below w5.heap.size w5 w') from HB);have hM3:=HM3.out;have hB0:=hM3.lo0;have hB1:=hM3.lob;have hB2:=hM3.blt;have hB3:=hM3.tk.2.2.1;have hbl4:=hB4.lt;have hown4:w4.ownsRow b 60 4 (.slice (some ⟨b,0,none⟩) 6 6) 6 ((gQ q.us s.alg (fI (bT q.ky (s.tried - 1))) 1).flatMap iV):=Lu (by rw [←xw];exact hB4) (Nat.le_refl _) rfl (by unfold maxLen;omega);have HG4:=hide (HG3.out.trans (hG4.sb q.b q.b));have Hp4:=hide (show T <+: T4∧T4.length≤T.length+13 from ⟨Hp.out.1.trans hp4,by have:=Hp.out.2;omega⟩)
 obtain ⟨bm,hbm⟩:∃bm,bm=w4.heap.size:=⟨_,rfl⟩
 rw [←hbm] at hX5 hbl4;have nbm:¬ S4 bm:=fun h9=>by have:=hM4.pay.ar.sL _ h9;omega
 have hs34:=hG4.size;have HN:=hide (show (q.B≤b∧q.b<b∧z.hi≤b)∧q.B≤bm∧q.b<bm∧z.hi≤bm from ⟨⟨by omega,by omega,by omega⟩,by omega,by omega,by omega⟩);have HWb:=hide (show W.heap.size≤b∧W.heap.size≤bm from by have:=HG3.out.size;omega);have Hown5:=hide (bP hown4 hb5);have HM5:=hide hM5;have Hb5:=hide hb5;have HX5:=hide hX5;clear hB4 hown4 hM3 hi4 hp4 hM4 hG4 HI HA HM3 HG3 Hp hB0 hB1 hB2 hB3 hM5 hl4 hl3 HM hb5;have hbne:b≠bm:=by omega
 go_upto_region 5 with fail;rw [←hbm,← hw5];clear hw5 hbm;go_wp2_with fail;refine HB.out.mono ?_;rintro e w6 ⟨rfl,hb6⟩;have hX6:=HX5.out.below hb6 HX5.out.lt;have x1:=hX6.cell 1;have fx1:=hX6.frozen 1;simp only [List.getElem?_toArray,List.getElem?_cons_zero,List.getElem?_cons_succ] at x1;have Hown6:=hide (bP Hown5.out hb6);have HM6:=hide (HM5.out.below hb6);have HX6:=hide hX6;have Hb6:=hide (Hb5.out.trans (hb6.mono Hb5.out.size));have hsb:b<w6.heap.size:=by have:=Hb6.out.size;have:=HX5.out.lt;have:=hb6.size;omega
 obtain ⟨iF,hiF,hF0,hF1,hF2⟩:=dK Dg;generalize hsg:bs (kT t)=sg;have Hsg2:=hide hsg;clear hsg hX6 hb6 HB c0 HX5 Hown5 HM5 Hb5
 go_upto_region 7 with (first | (at_builtin;refine aA _ rfl (.tmp 43) (.tmp 46) _ rfl b 60 iF (.agg #[.int .u8 0,.int .i64 0,.string ⟨#[]⟩,.slice none 0 0]) 4 56 Tryz.underlying53 hiF hF0 hF1 hF2 rfl (by decide) (.slice (some ⟨b,0,none⟩) 6 6) 6 _ rfl (bP Hown6.out (az _)) _ (some ⟨_,0,none⟩) 1 1 [.int .u8 116,.int .i64 0,.string sg,.slice none 0 0] rfl (dx (Blk.new _ _ _) rfl) (by simp [Value.oneCell']) (by unfold maxLen;omega) (by omega) (by simp only [World.size_alloc];omega) ?_;intro v7 w7 hown7 hgr7 hor7;obtain ⟨A7,c7,rfl⟩:=di hown7;simp only [Nat.reduceAdd] at hown7 hgr7 hor7 ⊢;have hX7:=(HX6.out.alloc _).grown hgr7 (fun e=>hbne (Option.some.inj e).symm);have x1:=hX7.cell 1;have fx1:=hX7.frozen 1;simp only [List.getElem?_toArray,List.getElem?_cons_zero,List.getElem?_cons_succ] at x1) | fail)
 have hM7:=(HM6.out.below (az (.cells #[.int .u8 116,.int .i64 0,.string sg,.slice none 0 0] 60))).row hgr7 nb4 HN.out.1.1 HN.out.1.2.1 HN.out.1.2.2;have k8:w7.grownBy (w7.setCell ⟨bm,1,none⟩ (.slice A7 7 c7)) (some bm):=ag (aj w7 (some bm)) (.inl rfl) _;have hM8:=hM7.row k8 nbm HN.out.2.1 HN.out.2.2.1 HN.out.2.2.2;have hX8:=hX7.set_ 1 (.slice A7 7 c7);simp at hX8;have hown8:=uy hown7 hX7 (by decide) 1 (.slice A7 7 c7);have hG8:=((HG4.out.trans ((Grown.of_below (Hb6.out.trans ((az (.cells #[.int .u8 116,.int .i64 0,.string sg,.slice none 0 0] 60)).mono Hb6.out.size))).sb q.b q.b)).keepNew hgr7 (fun i e=>by cases e;exact HWb.out.1)).keepNew k8 (fun i e=>by cases e;exact HWb.out.2)
 obtain ⟨w8,hw8⟩:∃W8,W8=w7.setCell ⟨bm,1,none⟩ (.slice A7 7 c7):=⟨_,rfl⟩
 rw [←hw8] at hM8 hX8 hown8 hG8;rw [←hw8];clear hw8 k8 hM7 hX7 hown7 hgr7 hor7 x1 fx1;have c25:=hM8.c25;have f25:=hM8.cb.frz 25;generalize ((s.ph:Nat):Int)=ph at c25;have hM9:=hM8.ph_ 3;have hG9:=hG8.trans (hM8.gr_ 1 (.int .i64 3));have hown9:=uy hown8 hM8.cb.blk (by decide) 25 (.int .i64 3);have hX9:=hX8.far (p:=⟨q.b,25,none⟩) (by show bm≠q.b;have:=HN.out.2.2.1;omega) (.int .i64 3)
 obtain ⟨w9,hw9⟩:∃W9,W9=w8.setCell ⟨q.b,25,none⟩ (.int .i64 3):=⟨_,rfl⟩
 have hM9:aI q T4 S4 { s with ph:=3 } z w9:=by rw [hw9];exact hM9
 have hG9:Grown (SB q.b q.b S) W (SB q.b q.b S4) w9:=by rw [hw9];exact hG9
 rw [←hw9] at hown9 hX9;have HM9:=hide hM9;have HG9:=hide hG9;have HX9:=hide hX9
 have hfl:kR w9 A7 (gQ q.us s.alg (fI (bT q.ky (s.tried - 1))) 1++[⟨116,0,kT t,[]⟩]):=Au (by
  rw [List.flatMap_append];have h9:=hown9;rw [←Hsg2.out] at h9
  exact h9) (fun x hx=>by
  rcases List.mem_append.1 hx with hx | hx
  ·simp only [gQ,List.mem_cons,List.not_mem_nil,or_false] at hx
   rcases hx with rfl | rfl | rfl | rfl | rfl | rfl
   ·exact ⟨rfl,show (115:Nat)<256 by decide⟩
   ·exact ⟨rfl,show (115:Nat)<256 by decide⟩
   ·exact ⟨rfl,show (115:Nat)<256 by decide⟩
   ·exact ⟨rfl,show (98:Nat)<256 by decide⟩
   ·exact ⟨rfl,show (115:Nat)<256 by decide⟩
   ·exact ⟨rfl,show (116:Nat)<256 by decide⟩
  ·simp only [List.mem_singleton] at hx
   subst hx
   exact ⟨rfl,show (116:Nat)<256 by decide⟩) rfl (show 1≤7 by decide)
 have HE:=hide (lN 50 (c:=c7) hfl (fun x hx=>by
  rcases List.mem_append.1 hx with hx | hx
  ·exact ML hus hal (Nat.le_trans (ow _) (by decide)) x hx
  ·simp only [List.mem_singleton] at hx
   subst hx
   exact ⟨Hsg.out.2,by simp,by simp⟩) (show (7:Nat)≤1000 by decide))
 have HE:Hid (Calls Tryz.prog 68 #[.agg #[.int .i64 50,.slice A7 7 c7]] w9 (SF 50 (gQ q.us s.alg (fI (bT q.ky (s.tried - 1))) 1++[⟨116,0,kT t,[]⟩]) w9)):=HE;clear hfl hown9 hown8 hX8 hM8 hG8 hM9 hG9;have y0:=hX9.cell 0;have y1:=hX9.cell 1;simp only [List.getElem?_toArray,List.getElem?_cons_zero,List.getElem?_cons_succ] at y0 y1;clear hX9;go_upto_region 8 with fail;rw [←hw9];clear hw9 c25 f25;go_wp2_with fail;refine HE.out.mono ?_;rintro e w10 ⟨hb10,⟨q4,hq4,rfl⟩ | ⟨b10,ps,k4,hk4,rfl,hi10⟩⟩
 ·have Hq:=hide hq4
  have Hb:=hide hb10;clear hb10 hq4;generalize hy:bs q4=y;have Hy:=hide hy;clear hy;go_wp2_with fail;go_ret2;rw [←Hw.out,yA Hq.out];exact ⟨T4,S4,.nilIface,(by rw [←Hy.out];rfl),rfl,Hp4.out.1,(by have:=Hp4.out.2;omega),HM9.out.below Hb.out,HG9.out.trans ((Grown.of_below Hb.out).sb _ _)⟩
 ·have Hq:=hide hk4
  have Hb:=hide (And.intro hb10 hi10);clear hb10 hi10 hk4;go_wp2_with fail;go_ret2;rw [←Hw.out,lJ Hq.out];exact ⟨T4,S4,aH b10,rfl,Hb.out.2,Hp4.out.1,(by have:=Hp4.out.2;omega),HM9.out.below Hb.out.1,HG9.out.trans ((Grown.of_below Hb.out.1).sb _ _)⟩
end
section
variable {q : ClQ} {T T' : List Tm} {S S' : Nat → Prop} {s : bS} {z : TkP} {W W' : World}
theorem kG {A:Option Addr} {c:Nat} {l:List Fld} (hF:kR W A l) (hl:l.length≤20) (num:Int) (i:Nat):∃B m d,∀V,Below W.heap.size W V→Calls Tryz.prog 108 #[.agg #[.int .i64 num,.slice A l.length c],.int .i64 i] V (fun e w'=>e=.returned (.agg #[.int .u8 (atF l i).k,.int .i64 (atF l i).n,.string (bs (atF l i).s),.slice B m d])∧Below V.heap.size V w'):=by
 by_cases hi:i<l.length
 ·obtain ⟨ad,lv,rfl,hab,c0,c1,c2,c3,⟨ht,B3,d3,rfl,hc3⟩,hk⟩:=hF.at_ i l[i] (List.getElem?_eq_getElem hi)
  have ha:atF l i=l[i]:=by unfold atF;rw [List.getElem?_eq_getElem hi];rfl
  rw [ha];exact ⟨B3,l[i].l.length,d3,fun V hb=>(zN (c:=c) num i hi hl l[i] (At4.below ⟨c0,c1,c2,c3⟩ hb)).mono fun e w' h=>⟨h.1,h.2⟩⟩
 ·have ha:atF l i=⟨0,0,[],[]⟩:=by unfold atF;rw [List.getElem?_eq_none (by omega)];rfl
  rw [ha];exact ⟨none,0,0,fun V _=>(wM num i V (.inr (by omega))).mono fun e w' h=>⟨h.1,h.2⟩⟩
theorem EO (num:Int) (l:List Fld) (s:bS) (ev:Option (Int × Int × List UInt8)):(∃ps k,pK num l s ev=eZ s ps k)∨∃b,pK num l s ev=(s,⟨b,ev,none⟩):=by
 cases hq:encS num l with
 | ok b=>exact .inr ⟨b,yA hq⟩
 | none=>exact .inl ⟨_,_,lJ (by rw [hq];rfl)⟩
 | long=>exact .inl ⟨_,_,lJ (by rw [hq];rfl)⟩
 | bad e i=>exact .inl ⟨_,_,lJ (by rw [hq];rfl)⟩
theorem Jc:(∃s' ps k,rz q.us q.ky q.sid s=eZ s' ps k)∨∃b,rz q.us q.ky q.sid s=(⟨3,s.told,s.taken,s.tried,s.alg⟩,⟨b,some (3,bT q.ky (s.tried - 1),s.alg),none⟩):=by
 cases hn:kW q.sid (bs q.us) (bs bA) (bs s.alg) (bT q.ky (s.tried - 1)) with
 | none=>exact .inl ⟨s,_,_,BM hn⟩
 | some t =>
  rw [AP hn];rcases EO 50 (gQ q.us s.alg (fI (bT q.ky (s.tried - 1))) 1++[⟨116,0,kT t,[]⟩]) ⟨3,s.told,s.taken,s.tried,s.alg⟩ (some (3,bT q.ky (s.tried - 1),s.alg)) with ⟨ps,k,h⟩ | ⟨b,h⟩
  ·exact .inl ⟨_,ps,k,h⟩
  ·exact .inr ⟨b,h⟩
theorem J5 (h:aI q T S s z W) (h1:1≤s.tried) (hT:T.length≤700000):Calls Tryz.prog 133 #[.pointer (some ⟨q.b,0,none⟩)] W (vO q T S z W 100 (rz q.us q.ky q.sid s)):=by
 cases hn:kW q.sid (bs q.us) (bs bA) (bs s.alg) (bT q.ky (s.tried - 1)) with
 | none=>exact Dm h h1 hT hn
 | some t=>exact Fj h h1 hT hn
theorem KY (h:aI q T S s z W) {lo:Nat} {A:Option Addr} {c:Nat} {l:List Fld} (HF:dB lo W A l) (hlo:∀i,S i→i<lo) (hqb:q.b<lo) (hln:l.length≤20) (hll:∀x∈l,x.l.length≤1000∧∀y∈x.l,y.length≤1000000) (hT:T.length≤690000) (h1:1≤s.tried) :
  Calls Tryz.prog 77 #[.pointer (some ⟨q.b,0,none⟩),.agg #[.int .i64 52,.slice A l.length c]] W (qE q T S W 15000 (({ s with ph:=4 },⟨[],some (5,bT q.ky (s.tried - 1),s.alg),none⟩))):=by
 obtain ⟨W0,hW0⟩:∃W0,W0=W.alloc (.cells #[.int .i64 52,.slice A l.length c] 55):=⟨_,rfl⟩
 have hb0:Below W.heap.size W W0:=by rw [hW0];exact az _
 have hX:Blk W0 W.heap.size 55 #[.int .i64 52,.slice A l.length c]:=by rw [hW0];exact Blk.new W _ _
 have m0:=hX.cell 0;have m1:=hX.cell 1;simp only [List.getElem?_toArray,List.getElem?_cons_zero,List.getElem?_cons_succ] at m0 m1;have HM0:=hide (h.below hb0);have HF0:=hide (HF.below hb0);have Hb0:=hide hb0;have hq1:q.b+1≤lo:=hqb;have c25:=HM0.out.c25;have f25:=HM0.out.cb.frz 25;generalize ((s.ph:Nat):Int)=ph at c25;clear h hb0 hX HF;go_enter Tryz.func77,Tryz.ntmps77;go_upto_region 1 with fail;rw [←hW0];clear hW0;go_wp2_with fail
 obtain ⟨w1,hw1⟩:∃W1,W1=W0.setCell ⟨q.b,25,none⟩ (.int .i64 4):=⟨_,rfl⟩
 have hM1:aI q T S { s with ph:=4 } z w1:=by rw [hw1];exact HM0.out.ph_ 4
 have hG1:Grown (SB q.b q.b S) W0 (SB q.b q.b S) w1:=by rw [hw1];exact HM0.out.gr_ 1 (.int .i64 4)
 have HM1:=hide hM1;have HG1:=hide (((Grown.of_below Hb0.out).sb q.b q.b).trans hG1);have HE:=hide (tQ hM1 h1 5);unfold LD at HE;rw [←hw1];clear hw1 hM1 hG1 c25 f25;refine HE.out.mono ?_;rintro e w2 ⟨b,rfl,hB2,hb2,hn2⟩;have Hf:=hide (And.intro hB2 hb2);have Hn:=hide (show ¬ S b from fun h9=>by have:=HM1.out.pay.ar.sL b h9;omega);clear hB2 hb2 hn2;go_wp2_with fail;go_ret3;exact ⟨T,S,z,_,.nilIface,rfl,⟨b,rfl,Hf.out.1,Hn.out⟩,rfl,List.prefix_refl _,by omega,HM1.out.below Hf.out.2,HG1.out.trans ((Grown.of_below Hf.out.2).sb _ _)⟩
theorem GN (h:aI q T S s z W) {lo:Nat} {A:Option Addr} {c:Nat} {l:List Fld} (HF:dB lo W A l) (hlo:∀i,S i→i<lo) (hqb:q.b<lo) (hln:l.length≤20) (hll:∀x∈l,x.l.length≤1000∧∀y∈x.l,y.length≤1000000) (hT:T.length≤690000) (h1:1≤s.tried) (hs:(atF l 0).s≠s.alg) :
  Calls Tryz.prog 77 #[.pointer (some ⟨q.b,0,none⟩),.agg #[.int .i64 60,.slice A l.length c]] W (qE q T S W 15000 (eZ s [Mm] 12)):=by
 obtain ⟨W0,hW0⟩:∃W0,W0=W.alloc (.cells #[.int .i64 60,.slice A l.length c] 55):=⟨_,rfl⟩
 have hb0:Below W.heap.size W W0:=by rw [hW0];exact az _
 have hX:Blk W0 W.heap.size 55 #[.int .i64 60,.slice A l.length c]:=by rw [hW0];exact Blk.new W _ _
 have m0:=hX.cell 0;have m1:=hX.cell 1;simp only [List.getElem?_toArray,List.getElem?_cons_zero,List.getElem?_cons_succ] at m0 m1;have HM0:=hide (h.below hb0);have HF0:=hide (HF.below hb0);have Hb0:=hide hb0;have hq1:q.b+1≤lo:=hqb;have HKy:=hide (jm HM0.out h1);have HPb:=hide (fun (V:World) (hb:Below W0.heap.size W0 V)=>oV (HM0.out.below hb) (bT q.ky (s.tried - 1)) (by omega));unfold LG at HPb;have hlo2:=hlo;have hxl:=hX.lt;have nx:¬ S W.heap.size:=fun h9=>by have:=h.pay.ar.sL _ h9;omega
 have HX:=hide hX;have HO:=hide (fun (V:World)=>bH ⟨#[107,101,121]⟩ 12 (by decide) V);clear h hb0 hX HF;go_enter Tryz.func77,Tryz.ntmps77;go_upto_region 1 with fail;rw [←hW0];clear hW0;go_wp2_with fail;refine HKy.out.mono ?_;rintro e w1 ⟨rfl,hb1⟩;go_wp2_with fail;refine (HPb.out _ hb1).mono ?_;rintro e w2 ⟨n2,T2,S2,rfl,hi2,hp2,hl2,hM2,hG2⟩;have hb01:=Hb0.out.trans (hb1.mono Hb0.out.size);have hF2:=nO (HF0.out.below hb1) hG2 hlo2;have hX2:=hG2.outs.blk (HX.out.below hb1 HX.out.lt) nx;have m0:=hX2.cell 0;have m1:=hX2.cell 1;simp only [List.getElem?_toArray,List.getElem?_cons_zero,List.getElem?_cons_succ] at m0 m1;have c29:=hM2.c29;have m0q:=fun dd oo=>cell_regrown (v:=.int .i64 60) m0 dd oo
 have m1q:=fun dd oo=>cell_regrown (v:=.slice A l.length c) m1 dd oo
 have c29q:=fun dd oo=>cell_regrown (v:=.string (bs s.alg)) c29 dd oo
 obtain ⟨B0,k0,d0,hg0⟩:=kG (c:=c) hF2 hln 60 0;obtain ⟨B1,k1,d1,hg1⟩:=kG (c:=c) hF2 hln 60 1;have G0:=hide (fun dd oo=>Calls.regrown_of (show Calls Tryz.prog 108 #[.agg #[.int .i64 60,.slice A l.length c],.int .i64 0] _ _ from hg0 _ (below_regrown w2 dd oo)));have G1:=hide (fun dd oo=>Calls.regrown_of (show Calls Tryz.prog 108 #[.agg #[.int .i64 60,.slice A l.length c],.int .i64 1] _ _ from hg1 _ (below_regrown w2 dd oo)));have HM2:=hide hM2;have HG2:=hide (((Grown.of_below hb01).trans hG2).sb q.b q.b);have Hp2:=hide (And.intro hp2 hl2);clear hF2 hX2 hg0 hg1 hM2 hG2 hp2 hl2 hi2 HKy HPb m0 m1 c29 HX hb1 hb01;have e1:((bs (atF l 0).s).toList == (bs s.alg).toList)=false:=by rw [beq_eq_false_iff_ne,aN,aN];exact hs
 go_upto_region 19 with fail;refine wp_region_quiet_below (by kernel_rfl) (by kernel_rfl) ?_
 repeat (first | go_big_quiet_skip | quiet_step ((first | (go_at_call 108;first | with_reducible exact G0.out _ _ | with_reducible exact G1.out _ _) | fail)))
 refine wpQuiet_nil ?_;intro _ hwq;obtain ⟨⟨dq,osq⟩,hwqq⟩:=hwq;subst hwqq;have hbq:=below_regrown w2 dq osq;generalize grow (redrawn w2 dq) osq=wq at hbq ⊢;clear m0q m1q c29q G0 G1;go_wp2_with fail;refine (HO.out _).mono ?_;rintro e w3 ⟨b,rfl,hi3,hb3⟩;have Hi:=hide (And.intro hi3 (hbq.trans (hb3.mono hbq.size)));clear hi3 hb3 hbq;go_wp2_with fail;go_ret3;exact ⟨T2,S2,z,.slice none 0 0,aH b,rfl,rfl,Hi.out.1,Hp2.out.1,(by have:=Hp2.out.2;omega),HM2.out.below Hi.out.2,HG2.out.trans ((Grown.of_below Hi.out.2).sb _ _)⟩
theorem JH (h:aI q T S s z W) {lo:Nat} {A:Option Addr} {c:Nat} {l:List Fld} (HF:dB lo W A l) (hlo:∀i,S i→i<lo) (hqb:q.b<lo) (hln:l.length≤20) (hll:∀x∈l,x.l.length≤1000∧∀y∈x.l,y.length≤1000000) (hT:T.length≤690000) (h1:1≤s.tried) (hs:(atF l 0).s=s.alg) (hs2:(atF l 1).s≠fI (bT q.ky (s.tried - 1))) :
  Calls Tryz.prog 77 #[.pointer (some ⟨q.b,0,none⟩),.agg #[.int .i64 60,.slice A l.length c]] W (qE q T S W 15000 (eZ s [Mm] 12)):=by
 obtain ⟨W0,hW0⟩:∃W0,W0=W.alloc (.cells #[.int .i64 60,.slice A l.length c] 55):=⟨_,rfl⟩
 have hb0:Below W.heap.size W W0:=by rw [hW0];exact az _
 have hX:Blk W0 W.heap.size 55 #[.int .i64 60,.slice A l.length c]:=by rw [hW0];exact Blk.new W _ _
 have m0:=hX.cell 0;have m1:=hX.cell 1;simp only [List.getElem?_toArray,List.getElem?_cons_zero,List.getElem?_cons_succ] at m0 m1;have HM0:=hide (h.below hb0);have HF0:=hide (HF.below hb0);have Hb0:=hide hb0;have hq1:q.b+1≤lo:=hqb;have HKy:=hide (jm HM0.out h1);have HPb:=hide (fun (V:World) (hb:Below W0.heap.size W0 V)=>oV (HM0.out.below hb) (bT q.ky (s.tried - 1)) (by omega));unfold LG at HPb;have hlo2:=hlo;have hxl:=hX.lt;have nx:¬ S W.heap.size:=fun h9=>by have:=h.pay.ar.sL _ h9;omega
 have HX:=hide hX;have HO:=hide (fun (V:World)=>bH ⟨#[107,101,121]⟩ 12 (by decide) V);clear h hb0 hX HF;go_enter Tryz.func77,Tryz.ntmps77;go_upto_region 1 with fail;rw [←hW0];clear hW0;go_wp2_with fail;refine HKy.out.mono ?_;rintro e w1 ⟨rfl,hb1⟩;go_wp2_with fail;refine (HPb.out _ hb1).mono ?_;rintro e w2 ⟨n2,T2,S2,rfl,hi2,hp2,hl2,hM2,hG2⟩;have hb01:=Hb0.out.trans (hb1.mono Hb0.out.size);have hF2:=nO (HF0.out.below hb1) hG2 hlo2;have hX2:=hG2.outs.blk (HX.out.below hb1 HX.out.lt) nx;have m0:=hX2.cell 0;have m1:=hX2.cell 1;simp only [List.getElem?_toArray,List.getElem?_cons_zero,List.getElem?_cons_succ] at m0 m1;have c29:=hM2.c29;have m0q:=fun dd oo=>cell_regrown (v:=.int .i64 60) m0 dd oo
 have m1q:=fun dd oo=>cell_regrown (v:=.slice A l.length c) m1 dd oo
 have c29q:=fun dd oo=>cell_regrown (v:=.string (bs s.alg)) c29 dd oo
 obtain ⟨B0,k0,d0,hg0⟩:=kG (c:=c) hF2 hln 60 0;obtain ⟨B1,k1,d1,hg1⟩:=kG (c:=c) hF2 hln 60 1;have G0:=hide (fun dd oo=>Calls.regrown_of (show Calls Tryz.prog 108 #[.agg #[.int .i64 60,.slice A l.length c],.int .i64 0] _ _ from hg0 _ (below_regrown w2 dd oo)));have G1:=hide (fun dd oo=>Calls.regrown_of (show Calls Tryz.prog 108 #[.agg #[.int .i64 60,.slice A l.length c],.int .i64 1] _ _ from hg1 _ (below_regrown w2 dd oo)));have HM2:=hide hM2;have HG2:=hide (((Grown.of_below hb01).trans hG2).sb q.b q.b);have Hp2:=hide (And.intro hp2 hl2);clear hF2 hX2 hg0 hg1 hM2 hG2 hp2 hl2 hi2 HKy HPb m0 m1 c29 HX hb1 hb01;have e1:((bs (atF l 0).s).toList == (bs s.alg).toList)=true:=by rw [hs];exact beq_self_eq_true _
 have e2:((bs (atF l 1).s).toList == (bs (fI (bT q.ky (s.tried - 1)))).toList)=false:=by rw [beq_eq_false_iff_ne,aN,aN];exact hs2
 go_upto_region 19 with fail;refine wp_region_quiet_below (by kernel_rfl) (by kernel_rfl) ?_
 repeat (first | go_big_quiet_skip | quiet_step ((first | (go_at_call 108;first | with_reducible exact G0.out _ _ | with_reducible exact G1.out _ _) | fail)))
 refine wpQuiet_nil ?_;intro _ hwq;obtain ⟨⟨dq,osq⟩,hwqq⟩:=hwq;subst hwqq;have hbq:=below_regrown w2 dq osq;generalize grow (redrawn w2 dq) osq=wq at hbq ⊢;clear m0q m1q c29q G0 G1;go_wp2_with fail;refine (HO.out _).mono ?_;rintro e w3 ⟨b,rfl,hi3,hb3⟩;have Hi:=hide (And.intro hi3 (hbq.trans (hb3.mono hbq.size)));clear hi3 hb3 hbq;go_wp2_with fail;go_ret3;exact ⟨T2,S2,z,.slice none 0 0,aH b,rfl,rfl,Hi.out.1,Hp2.out.1,(by have:=Hp2.out.2;omega),HM2.out.below Hi.out.2,HG2.out.trans ((Grown.of_below Hi.out.2).sb _ _)⟩
theorem JQ (h:aI q T S s z W) {lo:Nat} {A:Option Addr} {c:Nat} {l:List Fld} (HF:dB lo W A l) (hlo:∀i,S i→i<lo) (hqb:q.b<lo) (hln:l.length≤20) (hll:∀x∈l,x.l.length≤1000∧∀y∈x.l,y.length≤1000000) (hT:T.length≤690000) (h1:1≤s.tried) (hs:(atF l 0).s=s.alg) (hs2:(atF l 1).s=fI (bT q.ky (s.tried - 1))) :
  Calls Tryz.prog 77 #[.pointer (some ⟨q.b,0,none⟩),.agg #[.int .i64 60,.slice A l.length c]] W (qE q T S W 15000 (rz q.us q.ky q.sid s)):=by
 obtain ⟨W0,hW0⟩:∃W0,W0=W.alloc (.cells #[.int .i64 60,.slice A l.length c] 55):=⟨_,rfl⟩
 have hb0:Below W.heap.size W W0:=by rw [hW0];exact az _
 have hX:Blk W0 W.heap.size 55 #[.int .i64 60,.slice A l.length c]:=by rw [hW0];exact Blk.new W _ _
 have m0:=hX.cell 0;have m1:=hX.cell 1;simp only [List.getElem?_toArray,List.getElem?_cons_zero,List.getElem?_cons_succ] at m0 m1;have HM0:=hide (h.below hb0);have HF0:=hide (HF.below hb0);have Hb0:=hide hb0;have hq1:q.b+1≤lo:=hqb;have HKy:=hide (jm HM0.out h1);have HPb:=hide (fun (V:World) (hb:Below W0.heap.size W0 V)=>oV (HM0.out.below hb) (bT q.ky (s.tried - 1)) (by omega));unfold LG at HPb;have hlo2:=hlo;have hxl:=hX.lt;have nx:¬ S W.heap.size:=fun h9=>by have:=h.pay.ar.sL _ h9;omega
 have HX:=hide hX;clear h hb0 hX HF;go_enter Tryz.func77,Tryz.ntmps77;go_upto_region 1 with fail;rw [←hW0];clear hW0;go_wp2_with fail;refine HKy.out.mono ?_;rintro e w1 ⟨rfl,hb1⟩;go_wp2_with fail;refine (HPb.out _ hb1).mono ?_;rintro e w2 ⟨n2,T2,S2,rfl,hi2,hp2,hl2,hM2,hG2⟩;have hb01:=Hb0.out.trans (hb1.mono Hb0.out.size);have hF2:=nO (HF0.out.below hb1) hG2 hlo2;have hX2:=hG2.outs.blk (HX.out.below hb1 HX.out.lt) nx;have m0:=hX2.cell 0;have m1:=hX2.cell 1;simp only [List.getElem?_toArray,List.getElem?_cons_zero,List.getElem?_cons_succ] at m0 m1;have c29:=hM2.c29;have m0q:=fun dd oo=>cell_regrown (v:=.int .i64 60) m0 dd oo
 have m1q:=fun dd oo=>cell_regrown (v:=.slice A l.length c) m1 dd oo
 have c29q:=fun dd oo=>cell_regrown (v:=.string (bs s.alg)) c29 dd oo
 obtain ⟨B0,k0,d0,hg0⟩:=kG (c:=c) hF2 hln 60 0;obtain ⟨B1,k1,d1,hg1⟩:=kG (c:=c) hF2 hln 60 1;have G0:=hide (fun dd oo=>Calls.regrown_of (show Calls Tryz.prog 108 #[.agg #[.int .i64 60,.slice A l.length c],.int .i64 0] _ _ from hg0 _ (below_regrown w2 dd oo)));have G1:=hide (fun dd oo=>Calls.regrown_of (show Calls Tryz.prog 108 #[.agg #[.int .i64 60,.slice A l.length c],.int .i64 1] _ _ from hg1 _ (below_regrown w2 dd oo)));have HM2:=hide hM2;have HG2:=hide (((Grown.of_below hb01).trans hG2).sb q.b q.b);have Hp2:=hide (And.intro hp2 hl2);clear hF2 hX2 hg0 hg1 hM2 hG2 hp2 hl2 hi2 HKy HPb m0 m1 c29 HX hb1 hb01;have e1:((bs (atF l 0).s).toList == (bs s.alg).toList)=true:=by rw [hs];exact beq_self_eq_true _
 have e2:((bs (atF l 1).s).toList == (bs (fI (bT q.ky (s.tried - 1)))).toList)=true:=by rw [hs2];exact beq_self_eq_true _
 go_upto_region 19 with fail;refine wp_region_quiet_below (by kernel_rfl) (by kernel_rfl) ?_
 repeat (first | go_big_quiet_skip | quiet_step ((first | (go_at_call 108;first | with_reducible exact G0.out _ _ | with_reducible exact G1.out _ _) | fail)))
 refine wpQuiet_nil ?_;intro _ hwq;obtain ⟨⟨dq,osq⟩,hwqq⟩:=hwq;subst hwqq;have hbq:=below_regrown w2 dq osq;generalize grow (redrawn w2 dq) osq=wq at hbq ⊢;clear m0q m1q c29q G0 G1;have hMq:=HM2.out.below hbq;have HS:=hide (J5 hMq h1 (by have:=Hp2.out.2;omega));have HGq:=hide (HG2.out.trans ((Grown.of_below hbq).sb q.b q.b));have hcs:=Jc (q:=q) (s:=s)
 have hE3:=fun (o:bS × lh) (ho:o.1=⟨3,s.told,s.taken,s.tried,s.alg⟩) (V:World) (T3:List Tm) (S3:Nat→Prop) (hM:aI q T3 S3 o.1 z V)=>(by rw [ho] at hM;exact tQ hM h1 3:Calls Tryz.prog 130 #[.pointer (some ⟨q.b,0,none⟩),.int .i64 3] V (LD q.n 3 (bT q.ky (s.tried - 1)) q.us s.alg V))
 have HE3:=hide hE3;unfold vO at HS;generalize hsg:rz q.us q.ky q.sid s=o at HS hcs;have Hsg:=hide hsg;clear hsg hE3 hMq hbq e1 e2 hs hs2;go_wp2_with fail;refine HS.out.mono ?_;rintro e w3 ⟨T3,S3,er,rfl,her,hp3,hl3,hM3,hG3⟩;have Hp3:=hide (show T <+: T3∧T3.length≤T.length+15000 from ⟨Hp2.out.1.trans hp3,by have:=Hp2.out.2;omega⟩);have HG3:=hide (HGq.out.trans hG3);rcases hcs with ⟨s',ps,k,ho⟩ | ⟨bb,ho⟩
 ·subst ho
  have HM3:=hide hM3;have Her:=hide her;obtain ⟨te,ue,rfl⟩:=aT.shape her;clear her hM3 hp3 hl3 hG3 HE3 HS;go_wp2_with fail;go_ret3;rw [Hsg.out];exact ⟨T3,S3,z,.slice none 0 0,_,rfl,rfl,Her.out,Hp3.out.1,Hp3.out.2,HM3.out,HG3.out⟩
 ·subst ho
  have her2:er=.nilIface:=her;subst her2;have HM3:=hide hM3;have HEv:=hide (HE3.out _ rfl w3 T3 S3 hM3);unfold LD at HEv;clear her hM3 hp3 hl3 hG3 HE3 HS;generalize hy:bs bb=y;have Hy:=hide hy;clear hy;go_wp2_with fail;refine HEv.out.mono ?_;rintro e w4 ⟨b4,rfl,hB4,hb4,hn4⟩;have Hf:=hide (And.intro hB4 hb4);have Hn:=hide (show ¬ S3 b4 from fun h9=>by have:=HM3.out.pay.ar.sL b4 h9;omega);clear hB4 hb4 hn4;go_wp2_with fail;go_ret3;rw [Hsg.out];exact ⟨T3,S3,z,_,.nilIface,(by rw [←Hy.out];rfl),⟨b4,rfl,Hf.out.1,Hn.out⟩,rfl,Hp3.out.1,Hp3.out.2,HM3.out.below Hf.out.2,HG3.out.trans ((Grown.of_below Hf.out.2).sb _ _)⟩
end
end Go.Proofs.YtnhekaepgpbijaaGreatDoor
namespace Go.Proofs.YtnhekaepgpbijaaGreatDoor
open Go.RowKit
def SC:List UInt8:=[6,0,0,0,12,115,115,104,45,117,115,101,114,97,117,116,104]
def SH:List UInt8:=[51,0,0,0,9,112,117,98,108,105,99,107,101,121,0]
theorem O4:fq SC=.ok 6 [⟨115,0,ib,[]⟩]:=by kernel_rfl
theorem Md:fq SH=.ok 51 [⟨110,0,[],[dG]⟩,⟨98,0,[],[]⟩]:=by kernel_rfl
theorem FQ {s:List UInt8}:okF ⟨115,0,s,[]⟩:=⟨by simp [bz,cntF],rfl⟩
theorem TB {s:List UInt8}:okF ⟨116,0,s,[]⟩:=⟨by simp [bz,cntF],rfl⟩
theorem PE {us alg pk:List UInt8} (h1:us.length≤1000) (h2:alg.length≤1000) (h3:pk.length≤1000):∃b,encS 50 (gQ us alg pk 0)=.ok b:=by
 unfold encS
 have hf:fit 50 ((gQ us alg pk 0).length:Int)=(⟨#[115,115,115,98,115,116]⟩,true):=by
  show fit 50 (6:Int)=_;kernel_rfl
 rw [hf,if_pos rfl];refine ⟨_,uE rfl (fun x hx=>?_) ?_⟩
 ·simp only [gQ,List.mem_cons,List.not_mem_nil,or_false] at hx
  rcases hx with rfl | rfl | rfl | rfl | rfl | rfl
  ·exact FQ
  ·exact FQ
  ·exact FQ
  ·exact ⟨by simp [bz,cntF],rfl⟩
  ·exact FQ
  ·exact TB
 ·have h:dE (gQ us alg pk 0)=bC us++(bC bA++(bC dG++([0]++(bC alg++(bC pk++[]))))):=rfl
  have hq:∀n,(q4 n).length=4:=fun _=>rfl
  rw [h];simp only [List.length_append,bC,hq,List.length_nil,List.length_cons];have e1:bA.length=14:=rfl;have e2:dG.length=9:=rfl;omega
def lQ (tk:List (List UInt8)):List Fld:=[⟨101,0,[],[iU,bv tk]⟩]
theorem ui {l:List (List UInt8)} {n:Nat} (h:∀x∈l,x.length≤n):(bv l).length≤l.length*(n+1):=by
 match l,h with
 | [],_=>simp [bv]
 | [x],h =>
  have:=h x (by simp);simp only [bv,List.length_singleton];omega
 | x :: y :: r,h =>
  have h1:=h x (by simp);have h2:=ui (l:=y :: r) (n:=n) (fun z hz=>h z (List.mem_cons_of_mem _ hz));simp only [bv,List.length_append,List.length_cons] at h2 ⊢;rw [Nat.add_mul (r.length+1) 1] at *;omega
theorem Qi {tk:List (List UInt8)} (hz:(bv tk).length≤2500):∃b,encS 7 (lQ tk)=.ok b∧fq b=.ok 7 (lQ tk)∧b.length≤2600:=by
 have hq:∀n,(q4 n).length=4:=fun _=>rfl
 have hp:dE (lQ tk)=q4 1++(bC iU++bC (bv tk)):=by simp [dE,lQ,aG,kY]
 have hl:(dE (lQ tk)).length≤2540:=by
  rw [hp];simp only [List.length_append,bC,hq,List.length_nil];have e1:iU.length=15:=rfl;omega
 have hE:encS 7 (lQ tk)=.ok ([7]++dE (lQ tk)):=by
  unfold encS
  have hf:fit 7 ((lQ tk).length:Int)=(⟨#[101]⟩,true):=by
   show fit 7 (1:Int)=_;kernel_rfl
  rw [hf,if_pos rfl];refine uE rfl (fun x hx=>?_) ?_
  ·simp only [lQ,List.mem_singleton] at hx
   subst hx;exact ⟨by simp [bz,cntF],by simp [aG]⟩
  ·rw [List.length_append]
   simp;omega
 refine ⟨_,hE,(FV (fun x hx=>?_) hE).1,by rw [List.length_append];simp;omega⟩;simp only [lQ,List.mem_singleton] at hx;subst hx;refine ⟨by simp,fun y hy=>?_⟩;simp only [List.mem_cons,List.not_mem_nil,or_false] at hy;rcases hy with rfl | rfl
 ·decide
 ·omega
section
variable {us : List UInt8} {al : List (List UInt8)} {ky : List Int} {sid : Option Tm} {s : bS}
theorem Qc {tk:List (List UInt8)} {b:List UInt8} (hd:fq b=.ok 7 (lQ tk)) (hw:bF tk=0) (h1:s.ph=1):tkC us al ky sid s b=(⟨1,true,tk,s.tried,s.alg⟩,⟨[],none,none⟩):=by
 unfold tkC;rw [if_neg (by omega),hd]
 have hm:gF 7 s=true:=by
  unfold gF;rw [if_pos (.inl rfl),decide_eq_true_eq];omega
 simp only;rw [if_pos hm];unfold Ap;rw [if_pos rfl]
 have he:jW [iU,bv tk] (s.told,s.taken)=((true,tk),none):=by
  rw [show jW [iU,bv tk] (s.told,s.taken)=if iU=iU then (if (splitN (bv tk)).1=0 then jW [] (true,(splitN (bv tk)).2) else ((s.told,s.taken),some (splitN (bv tk)).1)) else jW [] (s.told,s.taken) from rfl,if_pos rfl,qO hw,if_pos rfl];rfl
 show Ci (uS [iU,bv tk] s)=_;unfold uS;rw [he];obtain ⟨ph,told,taken,tried,alg⟩:=s;simp only at h1;subst h1;rfl
structure TrS (al:List (List UInt8)) (o:Option (List UInt8)) (i:Nat) (s:bS):Prop where
 tr:s.tried=i
 ph:s.ph=if i=0 then 1 else 2
 ch:jr al s=o
def o9 (i:Nat):List UInt8:=if i=0 then SC else SH
theorem FK {o:Option (List UInt8)} {i:Nat} (h:TrS al o i s):tkC us al ky sid s (o9 i)=Ci (jM us al ky s):=by
 obtain ⟨h1,h2,h3⟩:=h;unfold tkC o9
 by_cases hi:i=0
 ·rw [if_pos hi] at h2
  rw [if_neg (by omega),if_pos hi,O4]
  have hm:gF 6 s=true:=by
   unfold gF;rw [if_neg (by decide),if_pos rfl,decide_eq_true_eq];exact h2
  simp only;rw [if_pos hm];unfold Ap;rw [if_neg (by decide),if_neg (by decide),if_pos rfl,if_neg (fun h9=>h9 rfl)]
 ·rw [if_neg hi] at h2
  rw [if_neg (by omega),if_neg hi,Md]
  have hm:gF 51 s=true:=by
   unfold gF;rw [if_neg (by decide),if_neg (by decide),if_neg (by decide),if_neg (by decide),if_pos rfl,decide_eq_true_eq];exact .inl h2
  simp only;rw [if_pos hm];unfold Ap;rw [if_neg (by decide),if_neg (by decide),if_neg (by decide),if_pos rfl,if_neg (fun h9=>h9 (List.mem_singleton.2 rfl))]
theorem KO {a:List UInt8} {i:Nat} (h:TrS al (some a) i s) (hi:i<ky.length) (hu:us.length≤1000) (ha:a.length≤1000):∃b,encS 50 (gQ us a (fI (bT ky i)) 0)=.ok b∧tkC us al ky sid s (o9 i)=(⟨2,s.told,s.taken,i+1,a⟩,⟨b,none,none⟩)∧TrS al (some a) (i+1) ⟨2,s.told,s.taken,i+1,a⟩:=by
 obtain ⟨b,hb⟩:=PE (us:=us) (alg:=a) (pk:=fI (bT ky i)) hu ha (by have:=ow (bT ky i);omega);refine ⟨b,hb,?_,⟨rfl,by rw [if_neg (Nat.succ_ne_zero i)],?_⟩⟩
 ·rw [FK h]
  unfold jM;rw [h.ch];simp only;rw [if_neg (by have:=h.tr;omega),h.tr];unfold pK;rw [hb];rfl
 ·have:=h.ch
  unfold jr at this ⊢;exact this
theorem FD {o:Option (List UInt8)} {i:Nat} (h:TrS al o i s) (hi:o=none∨ky.length≤i):tkC us al ky sid s (o9 i)=({ s with ph:=5 },⟨[],none,some ([dm,kC],12)⟩):=by
  rw [FK h];unfold jM;rw [h.ch]
  cases o with
  | none=>rfl
  | some a =>
    simp only
    rw [if_pos (by have:=h.tr;rcases hi with h9 | h9;· cases h9
                   · omega)]
    rfl
end
theorem Gz {k:Int} (h:aC k=true):okN k=true:=by
 unfold aC at h;unfold okN;simp only [Bool.and_eq_true,decide_eq_true_eq] at h ⊢;omega
theorem Nz {ky:List Int} {i:Nat} (h:i<ky.length):bT ky i∈ky∧ky[i]?=some (bT ky i):=by
 unfold bT;rw [List.getElem?_eq_getElem h];exact ⟨List.getElem_mem h,rfl⟩
end Go.Proofs.YtnhekaepgpbijaaGreatDoor
