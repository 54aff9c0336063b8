/- Several of my texts in one: AuRt, AuEv, AuAn. -/
import Derived.Test.YtnhekaepgpbijaaGreatDoorKAli
import Derived.Test.YtnhekaepgpbijaaGreatDoorKAuRqG
import Derived.Test.YtnhekaepgpbijaaGreatDoorKAuAwG
import Derived.Test.YtnhekaepgpbijaaGreatDoorKAuKG
import Derived.Test.YtnhekaepgpbijaaGreatDoorKAsG
import Derived.Test.YtnhekaepgpbijaaGreatDoorKAuBG
set_option linter.unusedVariables false
set_option linter.unusedSimpArgs false
set_option maxHeartbeats 40000000
set_option maxRecDepth 100000
namespace Go.Proofs.YtnhekaepgpbijaaGreatDoor
open Go.Proofs.Tryz Go.RowKit Go.ChangeShapes Go.WideShapes Go.Sort
variable {p_:Prop} {pl:ByteArray} {r:Nat}
section
variable {W : World} {b : Nat} {cv : Array Value} {sid : Option Tm} {s : SvS} {A8 A9 : Option Addr} {c8 c9 : Nat} {al : List (List UInt8)} {gr : List (List UInt8 × Int)} {lim : Int} {A : Option Addr} {l : List Fld} {c m : Nat} {num : Int}
theorem FD (h:Bg W b cv sid s A8 c8 al A9 c9 gr lim A l) (o:l.length=3\/((l.length=6\/l.length=7)/\atF l 4=⟨115,0,(atF l 4).s,[]⟩/\atF l 5=⟨116,0,(atF l 5).s,[]⟩)) :
  Calls prog 66 #[.pointer (some ⟨b,0,none⟩),.agg #[.int .i64 num,.slice A l.length c]] W (RTk W b cv (bs (txt sid)) (aU (gU gr al lim sid s l))):=by
 unfold gU;rcases o with r | ⟨g,u,v⟩
 ·rw [Y6 Z0]
  exact UC h rfl r
 ·rw [Y5 Z0]
  by_cases hp:(atF l 2).s=fM
  ·rw [Y5 (by simpa using hp)]
   by_cases hn:(atF l 3).n=(l.length:Int) - 6
   ·rw [Y5 XN]
    cases j:nM gr al (atF l 0).s (atF l 4).s (ofT (atF l 5).s) with
    | false =>
     rw [Y6 rfl];exact Uf h rfl g hp hn j
    | true =>
     rw [Y5 Z2];unfold jO;rcases g with p | q
     ·rw [Y6 p]
      exact UD h rfl p hp hn j u v
     ·rw [Y5 Z0]
      by_cases hs:qR sid (atF l 0).s (atF l 1).s (atF l 4).s (ofT (atF l 5).s) (ofT (atF l 6).s)
      ·rw [Y6 hs]
       exact Uq h rfl q hp hn j hs
      ·rw [Y5 hs]
       exact Um h rfl q hp hn j hs
   ·rw [Y6 hn]
    exact Uz h rfl g hp hn
  ·rw [Y6 hp]
   exact UB h rfl g hp
theorem zz5b2 (h_:p_:=by
 rintro e w2 ⟨z,is,who,u,a,k,y,rfl,hv,hM2,hG2⟩;have hE:=HB.out.2.1.grown hG2 (fun e=>by have:=Y9 e;omega);have hR:=HB.out.2.2.grown hG2 (fun e=>by have:=Y9 e;omega);have y0:=hE.cell 0;have y1:=hE.cell 1;have y2:=hE.cell 2;have y3:=hE.cell 3;have z0:=hR.cell 0;have z1:=hR.cell 1;have fy0:=hE.frozen 0;have fy1:=hE.frozen 1;have fy2:=hE.frozen 2;have fy3:=hE.frozen 3;have fz0:=hR.frozen 0;have fz1:=hR.frozen 1;simp at y0 y1 y2 y3 z0 z1;have HV:=hide (Y4 hv (Y4 hM2 (aj (ag HB.out.1 (some b)) hG2)));clear hv hM2 hG2;go_wp2_with fail;obtain ⟨q0,q1,q2,q3,q4,q5⟩:=dz hE hR hne (.bool is) (.int .i64 who) (.string u) (.string a) (.int .i64 k) (.string y);unfold dX at q0 q1 q2 q3 q4 q5;refine bodyPost_ret (v:=.tuple #[.string z,.agg #[.bool is,.int .i64 who,.string u,.string a],.agg #[.int .i64 k,.string y]]) (by simp [results,results24,go_sem,q0,q1,q2,q3,q4,q5]) rfl ?_
 exact ⟨z,is,who,u,a,k,y,rfl,HV.out.1,bF HV.out.2.1 (by omega) (by omega),bP HV.out.2.2 (by omega) (by omega)⟩):p_:=h_
theorem QT (h:RSv W b cv (bs (txt sid)) s) (h3:s.ph=3) :
  Calls prog 24 #[.pointer (some ⟨b,0,none⟩),.string pl] W (RTk W b cv (bs (txt sid)) (aU (bC s [] 7))):=by
 obtain ⟨B,w,j,q,r⟩:=jP W;have g:=h.below j;have F:=h.blk.lt;have hne:W.heap.size≠W.heap.size+1:=Z0;have HB:=hide (Y4 j (Y4 q r));have I:=hide g;have G:=hide (fun (V:World)=>dH V);have D:=hide (fun (V:World) (hb:Below B.heap.size B V)=>show Calls prog 63 #[.pointer (some ⟨b,0,none⟩),.int .i64 7,.string ⟨#[]⟩] V (RTk B b cv (bs (txt sid)) (aU (bC s [] 7))) from (fU (g.below hb) 7 [] Z2).mono fun e w' h=>h.base hb);generalize K:aU (bC s [] 7)=o at D ⊢;clear K;have C:=g.ph;have J:(((s.ph:Nat):Int) == 3)=true:=XX;generalize ((s.ph:Nat):Int)=p at C J;clear h j q r g h3;go_enter func24,ntmps24;go_upto_region 1 with fail;rw [<-w];clear w;go_wp2_with fail;refine (D.out _ (Below.refl _ _)).mono ?_;exact zz5b2
theorem PQ (h:RSv W b cv (bs (txt sid)) s) (aE:pl.size<=3000) (h3:s.ph≠3) {ps:List (List UInt8)} {k:Nat} (S:fu (dC pl.data.toList)=some (ps,k)) :
  Calls prog 24 #[.pointer (some ⟨b,0,none⟩),.string pl] W (fun e w'=>RTk W b cv (bs (txt sid)) (aU (bC s ps k)) e w'/\((k:Nat):Int)≠0):=by
 obtain ⟨r,O,F,K,N⟩:=jP W;have C:=h.below F;have ad:=h.blk.lt;have ac:W.heap.size≠W.heap.size+1:=Z0;have HB:=hide (Y4 F (Y4 K N));have am:=hide C;have af:=hide (fun (V:World)=>dH V);have J:=hide (fun (V:World) (hb:Below r.heap.size r V) (ps:List (List UInt8)) (k:Nat) (q:(atL ps).length<=1000000)=>(fU (C.below hb) (k:Nat) ps q).mono fun e w' h=>h.base hb);have q:=mo S;have P:(atL ps).length<=1000000:=Yg (uL q.2) (by have:=q.1;omega);have J:=hide (fun (V:World) (hb:Below r.heap.size r V)=>J.out V hb ps k P);generalize hq:aU (bC s ps k)=o at J ⊢;clear hq;have U:=C.ph;have e3:(((s.ph:Nat):Int) == 3)=false:=Z6
 have X:=hide (show Calls prog 64 #[.string pl] r (fun e w'=>Below r.heap.size r w'/\(k:Int)≠0/\e=.returned (.tuple #[.agg #[.int .i64 0,.slice none 0 0],.agg #[.int .i64 (k:Nat),.string (bs (atL ps))]])) from (dR pl Z0).mono fun e w' h9=>by
  obtain ⟨ab,⟨num,l,A,c,hd,rfl,hF⟩ | ⟨aF,k',T,j,rfl⟩⟩:=h9
  ·rw [hd] at S
   cases S
  ·rw [S] at T
   cases T
   exact ⟨ab,Z0,rfl⟩)
 generalize ((s.ph:Nat):Int)=p at U e3;generalize bs (atL ps)=yq at J X;generalize ((k:Nat):Int)=Y at J X ⊢;clear h F K N C h3 S q P;go_enter func24,ntmps24;go_upto_region 1 with fail;rw [<-O];clear O;go_wp2_with fail;refine X.out.mono ?_;rintro e w1 ⟨G,j,rfl⟩
 obtain ⟨w2,hw2⟩:∃W2,W2=(w1.alloc (.cells #[.int .i64 0,.slice none 0 0] 55)).alloc (.cells #[.int .i64 Y,.string yq] 45):=⟨_,rfl⟩
 have R:Below w1.heap.size w1 w2:=ZZ;have g:Blk w2 w1.heap.size 55 #[.int .i64 0,.slice none 0 0]:=Zt;have D:Blk w2 (w1.heap.size+1) 45 #[.int .i64 Y,.string yq]:=ZL;have m0:=g.cell 0;have m1:=g.cell 1;have k0:=D.cell 0;have k1:=D.cell 1;simp only [Jx,Q1,Q2] at m0 m1 k0 k1;have Q:Below r.heap.size r w2:=G.trans (R.mono G.size);have e4:(Y != 0)=true:=by rw [YG];exact j
 have e5:(Y == 0)=false:=by rw [Y3];exact j
 have aa:=hide j;clear G R g D X U e3 j;go_upto_region 4 with fail;rw [<-hw2];clear hw2;go_wp2_with fail;refine (J.out _ Q).mono ?_;rintro e w2 ⟨z,is,I,u,a,k,y,rfl,hv,g,B⟩;have w:=HB.out.2.1.grown B (fun e=>by have:=Y9 e;omega);have L:=HB.out.2.2.grown B (fun e=>by have:=Y9 e;omega);have y0:=w.cell 0;have y1:=w.cell 1;have y2:=w.cell 2;have y3:=w.cell 3;have z0:=L.cell 0;have z1:=L.cell 1;have an:=w.frozen 0;have ao:=w.frozen 1;have ap:=w.frozen 2;have aq:=w.frozen 3;have av:=L.frozen 0;have aw:=L.frozen 1;simp at y0 y1 y2 y3 z0 z1;have Z:=hide (Y4 hv (Y4 g (aj (ag HB.out.1 (some b)) B)));clear hv g B;go_wp2_with fail;obtain ⟨q0,q1,q2,q3,q4,q5⟩:=dz w L ac (.bool is) (.int .i64 I) (.string u) (.string a) (.int .i64 k) (.string y);unfold dX at q0 q1 q2 q3 q4 q5;refine bodyPost_ret (v:=.tuple #[.string z,.agg #[.bool is,.int .i64 I,.string u,.string a],.agg #[.int .i64 k,.string y]]) YR rfl ?_;exact ⟨⟨z,is,I,u,a,k,y,rfl,Z.out.1,bF Z.out.2.1 Z0 Z0,bP Z.out.2.2 Z0 Z0⟩,aa.out⟩
theorem zz8ab (h_:p_:=by
 obtain ⟨hb9,⟨num',l',A,c,hd',rfl,hF⟩ | ⟨ps',k',hk',hk0,rfl⟩⟩:=h9
 ·rw [hd] at hd'
  cases hd'
  exact ⟨hb9,A,c,rfl,hF⟩
 ·rw [hd] at hk'
  cases hk'):p_:=h_
theorem Gx (h:RSv W b cv (bs (txt sid)) s) (T:pl.size<=3000) (h3:s.ph≠3) {G:Nat} {l:List Fld} (hd:dC pl.data.toList=.ok G l) (Z:G=5) (h0:s.ph=0) (hu:(atF l 0).s≠fT) :
  Calls prog 24 #[.pointer (some ⟨b,0,none⟩),.string pl] W (RTk W b cv (bs (txt sid)) (aU (bC s [fH] 13))):=by
 obtain ⟨j,N,B,I,L⟩:=jP W;have q:=h.below B;have aa:=h.blk.lt;have hne:W.heap.size≠W.heap.size+1:=Z0;have HB:=hide (Y4 B (Y4 I L));have ac:=hide q;have ab:=hide (fun (V:World)=>dH V);have X:=hide (fun (V:World) (hb:Below j.heap.size j V)=>show Calls prog 63 #[.pointer (some ⟨b,0,none⟩),.int .i64 13,.string ⟨#[115,101,114,118,105,99,101,32]⟩] V (RTk j b cv (bs (txt sid)) (aU (bC s [fH] 13))) from (fU (q.below hb) 13 [fH] Z2).mono fun e w' h=>h.base hb);generalize hq:aU (bC s [fH] 13)=o at X ⊢;clear hq;have F:=q.ph;have S:l.length=1:=by rw [Z] at hd;exact Tz hd
 have e3:((((s.ph:Nat):Int):Int) == 3)=false:=Z6;have Q:((((s.ph:Nat):Int):Int) != 3)=true:=ZE;have e0:((((s.ph:Nat):Int):Int) == 0)=true:=ZD;have P:((((s.ph:Nat):Int):Int) != 0)=false:=Zu;have e5:((((G:Nat):Int):Int) == 5)=true:=ZD;have R:((((G:Nat):Int):Int) != 5)=false:=Zu
 have O:=hide (show Calls prog 64 #[.string pl] j (fun e w'=>Below j.heap.size j w'/\∃A c,e=.returned (.tuple #[.agg #[.int .i64 (G:Nat),.slice A l.length c],.agg #[.int .i64 0,.string ⟨#[]⟩]])/\eT j.heap.size w' A l) from (dR pl Z0).mono fun e w' h9=>by
  exact zz8ab)
 have U:(s.fl:Int)=s.fl:=rfl;have e7:((bs (atF l 0).s).toList == ([115,115,104,45,117,115,101,114,97,117,116,104]:List UInt8))=false:=by rw [ay,Y3];exact hu
 generalize ((s.ph:Nat):Int)=p at F e3 Q e0 P;generalize ((G:Nat):Int)=nq at O e5 R;clear h B I L q h3 hd T Z h0 hu U;go_enter func24,ntmps24;go_upto_region 1 with fail;rw [<-N];clear N;go_wp2_with fail;refine O.out.mono ?_;rintro e w1 ⟨C,A,c,rfl,J⟩
 obtain ⟨w2,hw2⟩:∃W2,W2=(w1.alloc (.cells #[.int .i64 nq,.slice A l.length c] 55)).alloc (.cells #[.int .i64 0,.string ⟨#[]⟩] 45):=⟨_,rfl⟩
 have D:Below w1.heap.size w1 w2:=ZZ;have hM2:Blk w2 w1.heap.size 55 #[.int .i64 nq,.slice A l.length c]:=Zt;have w:Blk w2 (w1.heap.size+1) 45 #[.int .i64 0,.string ⟨#[]⟩]:=ZL;have m0:=hM2.cell 0;have m1:=hM2.cell 1;have k0:=w.cell 0;have k1:=w.cell 1;simp only [Jx,Q1,Q2] at m0 m1 k0 k1;have r:Below j.heap.size j w2:=C.trans (D.mono C.size);have F:=aA r F;have K:=J.below D;have g:=K.flds;obtain ⟨ad,rfl,af⟩:=fO g Z0;have Y:=(bu g (i:=0) Z0 rfl).2;simp only [Nat.reduceMul,Nat.zero_mul,Nat.add_zero] at Y;have am:0<l.length:=Z0;clear S;generalize bs (atF l 0).s=u0 at Y e7;clear C D hM2 w O J k1;go_upto_region 4 with fail;rw [<-hw2];clear hw2;clear K g;go_wp2_with fail;refine (X.out _ r).mono ?_;exact zz5b2
theorem zz53c (h_:p_:=by
 exact ⟨_,_,_,_,_,_,_,rfl,⟨rfl,rfl,rfl,fun _=>rfl,fun _ _ _ h9=>(by cases h9)⟩,bF HV.out.1 (by omega) (by omega),bP HV.out.2 (by omega) (by omega)⟩):p_:=h_
theorem SX (h:RSv W b cv (bs (txt sid)) s) (ao:pl.size<=3000) (h3:s.ph≠3) {N:Nat} {l:List Fld} (hd:dC pl.data.toList=.ok N l) (h5:N=5) (h0:s.ph=0) (hu:(atF l 0).s=fT) :
  Calls prog 24 #[.pointer (some ⟨b,0,none⟩),.string pl] W (RTk W b cv (bs (txt sid)) (⟨1,s.fl⟩,⟨mZ,none,none⟩)):=by
 obtain ⟨L,U,G,O,T⟩:=jP W;have C:=h.below G;have aq:=h.blk.lt;have an:W.heap.size≠W.heap.size+1:=Z0;have HB:=hide (Y4 G (Y4 O T));have Z:=hide C;have Y:=hide (fun (V:World)=>dH V);have r:=C.ph;have am:l.length=1:=by rw [h5] at hd;exact Tz hd
 have e3:((((s.ph:Nat):Int):Int) == 3)=false:=Z6;have ab:((((s.ph:Nat):Int):Int) != 3)=true:=ZE;have e0:((((s.ph:Nat):Int):Int) == 0)=true:=ZD;have aa:((((s.ph:Nat):Int):Int) != 0)=false:=Zu;have e5:((((N:Nat):Int):Int) == 5)=true:=ZD;have ac:((((N:Nat):Int):Int) != 5)=false:=Zu
 have X:=hide (show Calls prog 64 #[.string pl] L (fun e w'=>Below L.heap.size L w'/\∃A c,e=.returned (.tuple #[.agg #[.int .i64 (N:Nat),.slice A l.length c],.agg #[.int .i64 0,.string ⟨#[]⟩]])/\eT L.heap.size w' A l) from (dR pl Z0).mono fun e w' h9=>by
  exact zz8ab)
 have ap:(s.fl:Int)=s.fl:=rfl;have e7:((bs (atF l 0).s).toList == ([115,115,104,45,117,115,101,114,97,117,116,104]:List UInt8))=true:=by rw [ay,beq_iff_eq];exact hu
 generalize ((s.ph:Nat):Int)=p at r e3 ab e0 aa;generalize ((N:Nat):Int)=nq at X e5 ac;clear h G O T C h3 hd ao h5 h0 hu ap;go_enter func24,ntmps24;go_upto_region 1 with fail;rw [<-U];clear U;go_wp2_with fail;refine X.out.mono ?_;rintro e w1 ⟨I,A,c,rfl,P⟩
 obtain ⟨w2,hw2⟩:∃W2,W2=(w1.alloc (.cells #[.int .i64 nq,.slice A l.length c] 55)).alloc (.cells #[.int .i64 0,.string ⟨#[]⟩] 45):=⟨_,rfl⟩
 have J:Below w1.heap.size w1 w2:=ZZ;have w:Blk w2 w1.heap.size 55 #[.int .i64 nq,.slice A l.length c]:=Zt;have F:Blk w2 (w1.heap.size+1) 45 #[.int .i64 0,.string ⟨#[]⟩]:=ZL;have m0:=w.cell 0;have m1:=w.cell 1;have k0:=F.cell 0;have k1:=F.cell 1;simp only [Jx,Q1,Q2] at m0 m1 k0 k1;have g:Below L.heap.size L w2:=I.trans (J.mono I.size);have r:=aA g r;have Q:=P.below J;have j:=Q.flds;obtain ⟨ad,rfl,a4⟩:=fO j Z0;have f0:=(bu j (i:=0) Z0 rfl).2;simp only [Nat.reduceMul,Nat.zero_mul,Nat.add_zero] at f0;have a5:0<l.length:=Z0;clear am;generalize bs (atF l 0).s=u0 at f0 e7
 obtain ⟨w4,q⟩:∃W4,W4=w2.setCell ⟨b,24,none⟩ (.int .i64 (1:Nat)):=⟨_,rfl⟩
 have D:=Z.out.below g;have af:=D.blk.frozen 24;have z:=D.setPh 1;have u:=(HB.out.2.1.below g HB.out.2.1.lt).far (p:=⟨b,24,none⟩) XI (.int .i64 (1:Nat));have B:=(HB.out.2.2.below g HB.out.2.2.lt).far (p:=⟨b,24,none⟩) X9 (.int .i64 (1:Nat));have R:W.grownBy w4 (some b):=by rw [q];exact ah (ag (HB.out.1.trans (g.mono HB.out.1.size)) (some b)) (.inl rfl) _
 rw [<-q] at z u B;have K:=hide (Y4 u (Y4 B (Y4 z R)));clear D z u B R Q j;clear I J w F X P k1;go_upto_region 4 with fail;rw [<-hw2];clear hw2;go_upto_region 10 with fail;rw [show (1:Int)=((1:Nat):Int) from rfl,<- q];clear q r af;go_wp2_with fail;refine (Y.out _).mono ?_;rintro e w3 ⟨rfl,hb3⟩;have o:=K.out.1.below hb3 K.out.1.lt;have S:=K.out.2.1.below hb3 K.out.2.1.lt;have y0:=o.cell 0;have y1:=o.cell 1;have y2:=o.cell 2;have y3:=o.cell 3;have z0:=S.cell 0;have z1:=S.cell 1;have av:=o.frozen 0;have aw:=o.frozen 1;have aE:=o.frozen 2;have aF:=o.frozen 3;have a0:=S.frozen 0;have a3:=S.frozen 1;simp at y0 y1 y2 y3 z0 z1;have HV:=hide (Y4 (K.out.2.2.1.below hb3) (aj K.out.2.2.2 (ag hb3 (some b))));clear hb3;go_wp2_with fail;obtain ⟨q0,q1,q2,q3,q4,q5⟩:=dz o S an (.bool false) (.int .i64 0) (.string ⟨#[]⟩) (.string ⟨#[]⟩) (.int .i64 0) (.string ⟨#[]⟩);unfold dX at q0 q1 q2 q3 q4 q5;refine bodyPost_ret (v:=.tuple #[.string ⟨#[6,0,0,0,12,115,115,104,45,117,115,101,114,97,117,116,104]⟩,.agg #[.bool false,.int .i64 0,.string ⟨#[]⟩,.string ⟨#[]⟩],.agg #[.int .i64 0,.string ⟨#[]⟩]]) YR rfl ?_;exact zz53c
theorem PZ (h:RSv W b cv (bs (txt sid)) s) (T:pl.size<=3000) (h3:s.ph≠3) {q:Nat} {l:List Fld} (hd:dC pl.data.toList=.ok q l) (h5:q≠5) (R:q≠50) :
  Calls prog 24 #[.pointer (some ⟨b,0,none⟩),.string pl] W (RTk W b cv (bs (txt sid)) (aU (bC s [] 7))):=by
 obtain ⟨g,L,B,I,K⟩:=jP W;have j:=h.below B;have X:=h.blk.lt;have hne:W.heap.size≠W.heap.size+1:=Z0;have HB:=hide (Y4 B (Y4 I K));have aa:=hide j;have Z:=hide (fun (V:World)=>dH V);have U:=hide (fun (V:World) (hb:Below g.heap.size g V)=>show Calls prog 63 #[.pointer (some ⟨b,0,none⟩),.int .i64 7,.string ⟨#[]⟩] V (RTk g b cv (bs (txt sid)) (aU (bC s [] 7))) from (fU (j.below hb) 7 [] Z2).mono fun e w' h=>h.base hb);generalize hq:aU (bC s [] 7)=o at U ⊢;clear hq;have F:=j.ph;have e3:((((s.ph:Nat):Int):Int) == 3)=false:=Z6;have O:((((s.ph:Nat):Int):Int) != 3)=true:=ZE;have e5:((((q:Nat):Int):Int) == 5)=false:=Z6;have Q:((((q:Nat):Int):Int) != 5)=true:=ZE;have P:((((q:Nat):Int):Int) == 50)=false:=Z6;have G:((((q:Nat):Int):Int) != 50)=true:=ZE
 have N:=hide (show Calls prog 64 #[.string pl] g (fun e w'=>Below g.heap.size g w'/\∃A c,e=.returned (.tuple #[.agg #[.int .i64 (q:Nat),.slice A l.length c],.agg #[.int .i64 0,.string ⟨#[]⟩]])/\eT g.heap.size w' A l) from (dR pl Z0).mono fun e w' h9=>by
  exact zz8ab)
 generalize ((s.ph:Nat):Int)=p at F e3 O;generalize ((q:Nat):Int)=nq at N e5 Q P G;clear h B I K j h3 hd T h5 R;go_enter func24,ntmps24;go_upto_region 1 with fail;rw [<-L];clear L;go_wp2_with fail;refine N.out.mono ?_;rintro e w1 ⟨C,A,c,rfl,J⟩
 obtain ⟨w2,hw2⟩:∃W2,W2=(w1.alloc (.cells #[.int .i64 nq,.slice A l.length c] 55)).alloc (.cells #[.int .i64 0,.string ⟨#[]⟩] 45):=⟨_,rfl⟩
 have D:Below w1.heap.size w1 w2:=ZZ;have hM2:Blk w2 w1.heap.size 55 #[.int .i64 nq,.slice A l.length c]:=Zt;have w:Blk w2 (w1.heap.size+1) 45 #[.int .i64 0,.string ⟨#[]⟩]:=ZL;have m0:=hM2.cell 0;have m1:=hM2.cell 1;have k0:=w.cell 0;have Y:=w.cell 1;simp only [Jx,Q1,Q2] at m0 m1 k0 Y;have r:Below g.heap.size g w2:=C.trans (D.mono C.size);have F:=aA r F;have S:=J.below D;clear C D hM2 w N J Y;go_upto_region 4 with fail;rw [<-hw2];clear hw2;clear S;go_wp2_with fail;refine (U.out _ r).mono ?_;exact zz5b2
theorem Jt (h:RSv W b cv (bs (txt sid)) s) (T:pl.size<=3000) (h3:s.ph≠3) {l:List Fld} (hd:dC pl.data.toList=.ok r l) (h5:r=5) (h0:s.ph≠0) :
  Calls prog 24 #[.pointer (some ⟨b,0,none⟩),.string pl] W (RTk W b cv (bs (txt sid)) (aU (bC s [] 7))):=by
 obtain ⟨g,L,B,I,K⟩:=jP W;have j:=h.below B;have X:=h.blk.lt;have hne:W.heap.size≠W.heap.size+1:=Z0;have HB:=hide (Y4 B (Y4 I K));have aa:=hide j;have Z:=hide (fun (V:World)=>dH V);have U:=hide (fun (V:World) (hb:Below g.heap.size g V)=>show Calls prog 63 #[.pointer (some ⟨b,0,none⟩),.int .i64 7,.string ⟨#[]⟩] V (RTk g b cv (bs (txt sid)) (aU (bC s [] 7))) from (fU (j.below hb) 7 [] Z2).mono fun e w' h=>h.base hb);generalize hq:aU (bC s [] 7)=o at U ⊢;clear hq;have F:=j.ph;have e3:((((s.ph:Nat):Int):Int) == 3)=false:=Z6;have P:((((s.ph:Nat):Int):Int) != 3)=true:=ZE;have e0:((((s.ph:Nat):Int):Int) == 0)=false:=Z6;have O:((((s.ph:Nat):Int):Int) != 0)=true:=ZE;have e5:((((r:Nat):Int):Int) == 5)=true:=ZD;have R:((((r:Nat):Int):Int) != 5)=false:=Zu;have Q:((((r:Nat):Int):Int) == 50)=false:=Z6;have G:((((r:Nat):Int):Int) != 50)=true:=ZE
 have N:=hide (show Calls prog 64 #[.string pl] g (fun e w'=>Below g.heap.size g w'/\∃A c,e=.returned (.tuple #[.agg #[.int .i64 (r:Nat),.slice A l.length c],.agg #[.int .i64 0,.string ⟨#[]⟩]])/\eT g.heap.size w' A l) from (dR pl Z0).mono fun e w' h9=>by
  exact zz8ab)
 generalize ((s.ph:Nat):Int)=p at F e3 P e0 O;generalize ((r:Nat):Int)=nq at N e5 R Q G;clear h B I K j h3 hd T h5 h0;go_enter func24,ntmps24;go_upto_region 1 with fail;rw [<-L];clear L;go_wp2_with fail;refine N.out.mono ?_;rintro e w1 ⟨C,A,c,rfl,J⟩
 obtain ⟨w2,hw2⟩:∃W2,W2=(w1.alloc (.cells #[.int .i64 nq,.slice A l.length c] 55)).alloc (.cells #[.int .i64 0,.string ⟨#[]⟩] 45):=⟨_,rfl⟩
 have D:Below w1.heap.size w1 w2:=ZZ;have hM2:Blk w2 w1.heap.size 55 #[.int .i64 nq,.slice A l.length c]:=Zt;have w:Blk w2 (w1.heap.size+1) 45 #[.int .i64 0,.string ⟨#[]⟩]:=ZL;have m0:=hM2.cell 0;have m1:=hM2.cell 1;have k0:=w.cell 0;have Y:=w.cell 1;simp only [Jx,Q1,Q2] at m0 m1 k0 Y;have q:Below g.heap.size g w2:=C.trans (D.mono C.size);have F:=aA q F;have S:=J.below D;clear C D hM2 w N J Y;go_upto_region 4 with fail;rw [<-hw2];clear hw2;clear S;go_wp2_with fail;refine (U.out _ q).mono ?_;exact zz5b2
theorem Gd (h:RSv W b cv (bs (txt sid)) s) (U:pl.size<=3000) (h3:s.ph≠3) {l:List Fld} (hd:dC pl.data.toList=.ok r l) (S:r=50) (h0:s.ph=0) :
  Calls prog 24 #[.pointer (some ⟨b,0,none⟩),.string pl] W (RTk W b cv (bs (txt sid)) (aU (bC s [] 7))):=by
 obtain ⟨g,L,B,I,K⟩:=jP W;have j:=h.below B;have Y:=h.blk.lt;have hne:W.heap.size≠W.heap.size+1:=Z0;have HB:=hide (Y4 B (Y4 I K));have ab:=hide j;have aa:=hide (fun (V:World)=>dH V);have X:=hide (fun (V:World) (hb:Below g.heap.size g V)=>show Calls prog 63 #[.pointer (some ⟨b,0,none⟩),.int .i64 7,.string ⟨#[]⟩] V (RTk g b cv (bs (txt sid)) (aU (bC s [] 7))) from (fU (j.below hb) 7 [] Z2).mono fun e w' h=>h.base hb);generalize hq:aU (bC s [] 7)=o at X ⊢;clear hq;have F:=j.ph;have e3:((((s.ph:Nat):Int):Int) == 3)=false:=Z6;have P:((((s.ph:Nat):Int):Int) != 3)=true:=ZE;have e0:((((s.ph:Nat):Int):Int) == 0)=true:=ZD;have O:((((s.ph:Nat):Int):Int) != 0)=false:=Zu;have e5:((((r:Nat):Int):Int) == 5)=false:=Z6;have R:((((r:Nat):Int):Int) != 5)=true:=ZE;have Q:((((r:Nat):Int):Int) == 50)=true:=ZD;have G:((((r:Nat):Int):Int) != 50)=false:=Zu
 have N:=hide (show Calls prog 64 #[.string pl] g (fun e w'=>Below g.heap.size g w'/\∃A c,e=.returned (.tuple #[.agg #[.int .i64 (r:Nat),.slice A l.length c],.agg #[.int .i64 0,.string ⟨#[]⟩]])/\eT g.heap.size w' A l) from (dR pl Z0).mono fun e w' h9=>by
  exact zz8ab)
 generalize ((s.ph:Nat):Int)=p at F e3 P e0 O;generalize ((r:Nat):Int)=nq at N e5 R Q G;clear h B I K j h3 hd U S h0;go_enter func24,ntmps24;go_upto_region 1 with fail;rw [<-L];clear L;go_wp2_with fail;refine N.out.mono ?_;rintro e w1 ⟨C,A,c,rfl,J⟩
 obtain ⟨w2,hw2⟩:∃W2,W2=(w1.alloc (.cells #[.int .i64 nq,.slice A l.length c] 55)).alloc (.cells #[.int .i64 0,.string ⟨#[]⟩] 45):=⟨_,rfl⟩
 have D:Below w1.heap.size w1 w2:=ZZ;have hM2:Blk w2 w1.heap.size 55 #[.int .i64 nq,.slice A l.length c]:=Zt;have w:Blk w2 (w1.heap.size+1) 45 #[.int .i64 0,.string ⟨#[]⟩]:=ZL;have m0:=hM2.cell 0;have m1:=hM2.cell 1;have k0:=w.cell 0;have Z:=w.cell 1;simp only [Jx,Q1,Q2] at m0 m1 k0 Z;have q:Below g.heap.size g w2:=C.trans (D.mono C.size);have F:=aA q F;have T:=J.below D;clear C D hM2 w N J Z;go_upto_region 4 with fail;rw [<-hw2];clear hw2;clear T;go_wp2_with fail;refine (X.out _ q).mono ?_;exact zz5b2
theorem UZ (h:RSv W b cv (bs (txt sid)) s) (ab:pl.size<=3000) (h3:s.ph≠3) {o:Nat} {l:List Fld} (hd:dC pl.data.toList=.ok o l) (Y:o=50) (h2:s.ph=2) :
  Calls prog 24 #[.pointer (some ⟨b,0,none⟩),.string pl] W (RTk W b cv (bs (txt sid)) (s,⟨[],none,none⟩)):=by
 obtain ⟨F,N,w,I,L⟩:=jP W;have r:=h.below w;have ac:=h.blk.lt;have aa:W.heap.size≠W.heap.size+1:=Z0;have HB:=hide (Y4 w (Y4 I L));have Q:=hide r;have P:=hide (fun (V:World)=>dH V);have C:=r.ph;have e3:((((s.ph:Nat):Int):Int) == 3)=false:=Z6;have T:((((s.ph:Nat):Int):Int) != 3)=true:=ZE;have e0:((((s.ph:Nat):Int):Int) == 0)=false:=Z6;have R:((((s.ph:Nat):Int):Int) != 0)=true:=ZE;have e5:((((o:Nat):Int):Int) == 5)=false:=Z6;have X:((((o:Nat):Int):Int) != 5)=true:=ZE;have U:((((o:Nat):Int):Int) == 50)=true:=ZD;have G:((((o:Nat):Int):Int) != 50)=false:=Zu;have e2:((((s.ph:Nat):Int):Int) == 2)=true:=ZD;have S:((((s.ph:Nat):Int):Int) != 2)=false:=Zu
 have O:=hide (show Calls prog 64 #[.string pl] F (fun e w'=>Below F.heap.size F w'/\∃A c,e=.returned (.tuple #[.agg #[.int .i64 (o:Nat),.slice A l.length c],.agg #[.int .i64 0,.string ⟨#[]⟩]])/\eT F.heap.size w' A l) from (dR pl Z0).mono fun e w' h9=>by
  exact zz8ab)
 generalize ((s.ph:Nat):Int)=p at C e3 T e0 R e2 S;generalize ((o:Nat):Int)=nq at O e5 X U G;clear h w I L r h3 hd ab Y h2;go_enter func24,ntmps24;go_upto_region 1 with fail;rw [<-N];clear N;go_wp2_with fail;refine O.out.mono ?_;rintro e w1 ⟨z,A,c,rfl,J⟩
 obtain ⟨w2,hw2⟩:∃W2,W2=(w1.alloc (.cells #[.int .i64 nq,.slice A l.length c] 55)).alloc (.cells #[.int .i64 0,.string ⟨#[]⟩] 45):=⟨_,rfl⟩
 have B:Below w1.heap.size w1 w2:=ZZ;have q:Blk w2 w1.heap.size 55 #[.int .i64 nq,.slice A l.length c]:=Zt;have u:Blk w2 (w1.heap.size+1) 45 #[.int .i64 0,.string ⟨#[]⟩]:=ZL;have m0:=q.cell 0;have m1:=q.cell 1;have k0:=u.cell 0;have k1:=u.cell 1;simp only [Jx,Q1,Q2] at m0 m1 k0 k1;have g:Below F.heap.size F w2:=z.trans (B.mono z.size);have C:=aA g C;have Z:=J.below B;have D:=hide (Y4 (HB.out.2.1.below g HB.out.2.1.lt) (Y4 (HB.out.2.2.below g HB.out.2.2.lt) (Y4 (Q.out.below g) (ag (HB.out.1.trans (g.mono HB.out.1.size)) (some b)))));clear z B q u O J k1;go_upto_region 4 with fail;rw [<-hw2];clear hw2;clear Z;go_wp2_with fail;refine (P.out _).mono ?_;rintro e w3 ⟨rfl,hb3⟩;have j:=D.out.1.below hb3 D.out.1.lt;have K:=D.out.2.1.below hb3 D.out.2.1.lt;have y0:=j.cell 0;have y1:=j.cell 1;have y2:=j.cell 2;have y3:=j.cell 3;have z0:=K.cell 0;have z1:=K.cell 1;have ad:=j.frozen 0;have af:=j.frozen 1;have am:=j.frozen 2;have an:=j.frozen 3;have ao:=K.frozen 0;have ap:=K.frozen 1;simp at y0 y1 y2 y3 z0 z1;have HV:=hide (Y4 (D.out.2.2.1.below hb3) (aj D.out.2.2.2 (ag hb3 (some b))));clear hb3;go_wp2_with fail;obtain ⟨q0,q1,q2,q3,q4,q5⟩:=dz j K aa (.bool false) (.int .i64 0) (.string ⟨#[]⟩) (.string ⟨#[]⟩) (.int .i64 0) (.string ⟨#[]⟩);unfold dX at q0 q1 q2 q3 q4 q5;refine bodyPost_ret (v:=.tuple #[.string ⟨#[]⟩,.agg #[.bool false,.int .i64 0,.string ⟨#[]⟩,.string ⟨#[]⟩],.agg #[.int .i64 0,.string ⟨#[]⟩]]) YR rfl ?_;exact zz53c
theorem Kn (h:RSv W b cv (bs (txt sid)) s) (Z:pl.size<=3000) (h3:s.ph≠3) {w:Nat} {l:List Fld} (hd:dC pl.data.toList=.ok w l) (K:w=50) (h1:s.ph=1) (hu:(atF l 1).s≠dn) :
  Calls prog 24 #[.pointer (some ⟨b,0,none⟩),.string pl] W (RTk W b cv (bs (txt sid)) (aU (bC s [fH] 13))):=by
 obtain ⟨j,Q,C,L,P⟩:=jP W;have q:=h.below C;have aa:=h.blk.lt;have hne:W.heap.size≠W.heap.size+1:=Z0;have HB:=hide (Y4 C (Y4 L P));have ac:=hide q;have ab:=hide (fun (V:World)=>dH V);have HC:=hide (fun (V:World) (hb:Below j.heap.size j V)=>show Calls prog 63 #[.pointer (some ⟨b,0,none⟩),.int .i64 13,.string ⟨#[115,101,114,118,105,99,101,32]⟩] V (RTk j b cv (bs (txt sid)) (aU (bC s [fH] 13))) from (fU (q.below hb) 13 [fH] Z2).mono fun e w' h=>h.base hb);generalize hq:aU (bC s [fH] 13)=o at HC ⊢;clear hq;have G:=q.ph
 have J:=(by rw [K] at hd;exact NK hd:_)
 have am:3<=l.length:=by rcases J with h9 | ⟨h9 | h9,_⟩ <;> omega
 have e3:((((s.ph:Nat):Int):Int) == 3)=false:=Z6;have U:((((s.ph:Nat):Int):Int) != 3)=true:=ZE;have e0:((((s.ph:Nat):Int):Int) == 0)=false:=Z6;have S:((((s.ph:Nat):Int):Int) != 0)=true:=ZE;have e5:((((w:Nat):Int):Int) == 5)=false:=Z6;have Y:((((w:Nat):Int):Int) != 5)=true:=ZE;have X:((((w:Nat):Int):Int) == 50)=true:=ZD;have I:((((w:Nat):Int):Int) != 50)=false:=Zu;have e2:((((s.ph:Nat):Int):Int) == 2)=false:=Z6;have T:((((s.ph:Nat):Int):Int) != 2)=true:=ZE
 have R:=hide (show Calls prog 64 #[.string pl] j (fun e w'=>Below j.heap.size j w'/\∃A c,e=.returned (.tuple #[.agg #[.int .i64 (w:Nat),.slice A l.length c],.agg #[.int .i64 0,.string ⟨#[]⟩]])/\eT j.heap.size w' A l) from (dR pl Z0).mono fun e w' h9=>by
  exact zz8ab)
 have e7:((bs (atF l 1).s).toList == ([115,115,104,45,99,111,110,110,101,99,116,105,111,110]:List UInt8))=false:=by rw [ay,Y3];exact hu
 generalize ((s.ph:Nat):Int)=p at G e3 U e0 S e2 T;generalize ((w:Nat):Int)=nq at R e5 Y X I;clear h C L P q h3 hd Z K h1 hu J;go_enter func24,ntmps24;go_upto_region 1 with fail;rw [<-Q];clear Q;go_wp2_with fail;refine R.out.mono ?_;rintro e w1 ⟨D,A,c,rfl,N⟩
 obtain ⟨w2,hw2⟩:∃W2,W2=(w1.alloc (.cells #[.int .i64 nq,.slice A l.length c] 55)).alloc (.cells #[.int .i64 0,.string ⟨#[]⟩] 45):=⟨_,rfl⟩
 have F:Below w1.heap.size w1 w2:=ZZ;have hM2:Blk w2 w1.heap.size 55 #[.int .i64 nq,.slice A l.length c]:=Zt;have B:Blk w2 (w1.heap.size+1) 45 #[.int .i64 0,.string ⟨#[]⟩]:=ZL;have m0:=hM2.cell 0;have m1:=hM2.cell 1;have k0:=B.cell 0;have k1:=B.cell 1;simp only [Jx,Q1,Q2] at m0 m1 k0 k1;have r:Below j.heap.size j w2:=D.trans (F.mono D.size);have G:=aA r G;have O:=N.below F;have g:=O.flds;obtain ⟨ad,rfl,af⟩:=fO g Z0;have f1:=(bu g (i:=1) Z0 rfl).2;simp only [Nat.reduceMul,Nat.zero_mul,Nat.add_zero] at f1;generalize bs (atF l 1).s=u1 at f1 e7;clear D F hM2 B R N k1;go_upto_region 4 with fail;rw [<-hw2];clear hw2;clear O g;go_wp2_with fail;refine (HC.out _ r).mono ?_;exact zz5b2
theorem Uu (h:RSv W b cv (bs (txt sid)) s) (ab:pl.size<=3000) (h3:s.ph≠3) {C:Nat} {l:List Fld} (hd:dC pl.data.toList=.ok C l) (N:C=50) (h1:s.ph=1) (hu:(atF l 1).s=dn) (p11:cv[11]?=some (.slice A8 al.length c8)) (p13:cv[13]?=some (.slice A9 gr.length c9)) (p14:cv[14]?=some (.int .i64 lim)) (grc:GrC W A9 gr) (alx:Txs W (.slice A8 al.length c8) al) (sz:∀i,(atF l i).s.length<=3100) (fine:bD sid) (fl:(s.fl:Int)<lim) (f1:s.fl<=1000) (gl:gr.length<=1000) (al1:al.length<=1000) :
  Calls prog 24 #[.pointer (some ⟨b,0,none⟩),.string pl] W (RTk W b cv (bs (txt sid)) (aU (gU gr al lim sid s l))):=by
 obtain ⟨q,R,g,O,Q⟩:=jP W;have r:=h.below g;have ac:=h.blk.lt;have hne:W.heap.size≠W.heap.size+1:=Z0;have HB:=hide (Y4 g (Y4 O Q));have am:=hide r;have af:=hide (fun (V:World)=>dH V);have K:=r.ph
 have D:=(by rw [N] at hd;exact NK hd:_)
 have ao:3<=l.length:=by rcases D with h9 | ⟨h9 | h9,_⟩ <;> omega
 have e3:((((s.ph:Nat):Int):Int) == 3)=false:=Z6;have Y:((((s.ph:Nat):Int):Int) != 3)=true:=ZE;have e0:((((s.ph:Nat):Int):Int) == 0)=false:=Z6;have U:((((s.ph:Nat):Int):Int) != 0)=true:=ZE;have e5:((((C:Nat):Int):Int) == 5)=false:=Z6;have aa:((((C:Nat):Int):Int) != 5)=true:=ZE;have Z:((((C:Nat):Int):Int) == 50)=true:=ZD;have L:((((C:Nat):Int):Int) != 50)=false:=Zu;have e2:((((s.ph:Nat):Int):Int) == 2)=false:=Z6;have X:((((s.ph:Nat):Int):Int) != 2)=true:=ZE
 have T:=hide (show Calls prog 64 #[.string pl] q (fun e w'=>Below q.heap.size q w'/\∃A c,e=.returned (.tuple #[.agg #[.int .i64 (C:Nat),.slice A l.length c],.agg #[.int .i64 0,.string ⟨#[]⟩]])/\eT q.heap.size w' A l) from (dR pl Z0).mono fun e w' h9=>by
  exact zz8ab)
 have e7:((bs (atF l 1).s).toList == ([115,115,104,45,99,111,110,110,101,99,116,105,111,110]:List UInt8))=true:=by rw [ay,beq_iff_eq];exact hu
 have S:=hide (fun (V:World) (hb:Below q.heap.size q V) (A:Option Addr) (c:Nat) (hF:eT q.heap.size V A l)=>(FD (c:=c) (num:=50) (⟨r.below hb,p11,p13,p14,(grc.below g).below hb,(alx.below g).below hb,fun W' hG=>hF W' hG.size (fun p q1 q2=>hG.cell_far p q2 (fun e=>by have:=Y9 e;have:=g.size;omega)),sz,fine,fl,f1,gl,al1⟩:Bg V b cv sid s A8 c8 al A9 c9 gr lim A l) D).mono fun e w' h9=>h9.base hb);have B:((C:Nat):Int)=50:=Z0;rw [B] at T e5 aa Z L;generalize aU (gU gr al lim sid s l)=o at S ⊢;generalize ((s.ph:Nat):Int)=p at K e3 Y e0 U e2 X;clear h g O Q r h3 hd ab N h1 hu D p11 p13 p14 grc alx sz fine fl f1 gl al1 B;go_enter func24,ntmps24;go_upto_region 1 with fail;rw [<-R];clear R;go_wp2_with fail;refine T.out.mono ?_;rintro e w1 ⟨I,A,c,rfl,P⟩
 obtain ⟨w2,hw2⟩:∃W2,W2=(w1.alloc (.cells #[.int .i64 50,.slice A l.length c] 55)).alloc (.cells #[.int .i64 0,.string ⟨#[]⟩] 45):=⟨_,rfl⟩
 have J:Below w1.heap.size w1 w2:=ZZ;have hM2:Blk w2 w1.heap.size 55 #[.int .i64 50,.slice A l.length c]:=Zt;have G:Blk w2 (w1.heap.size+1) 45 #[.int .i64 0,.string ⟨#[]⟩]:=ZL;have m0:=hM2.cell 0;have m1:=hM2.cell 1;have k0:=G.cell 0;have k1:=G.cell 1;simp only [Jx,Q1,Q2] at m0 m1 k0 k1;have w:Below q.heap.size q w2:=I.trans (J.mono I.size);have K:=aA w K;have F:=P.below J;have j:=F.flds;obtain ⟨ad,rfl,an⟩:=fO j Z0;have f1:=(bu j (i:=1) Z0 rfl).2;simp only [Nat.reduceMul,Nat.zero_mul,Nat.add_zero] at f1;generalize bs (atF l 1).s=u1 at f1 e7;have S:=hide (S.out w2 w (some ad) c F);clear I J hM2 G T P k1;go_upto_region 4 with fail;rw [<-hw2];clear hw2;clear F j;go_wp2_with fail;refine (S.out).mono ?_;exact zz5b2
theorem JJ (h:RSv W b cv (bs (txt sid)) s) (g:pl.size<=3000) (q:s.ph<=3) (p11:cv[11]?=some (.slice A8 al.length c8)) (p13:cv[13]?=some (.slice A9 gr.length c9)) (p14:cv[14]?=some (.int .i64 lim)) (grc:GrC W A9 gr) (alx:Txs W (.slice A8 al.length c8) al) (fine:bD sid) (fl:s.ph≠3->(s.fl:Int)<lim) (f1:s.fl<=1000) (gl:gr.length<=1000) (al1:al.length<=1000) :
  Calls prog 24 #[.pointer (some ⟨b,0,none⟩),.string pl] W (fun e w'=>RTk W b cv (bs (txt sid)) (dS gr al lim sid s pl.data.toList) e w'/\EpW (dS gr al lim sid s pl.data.toList)):=by
 have D:=O5 (p:=pl.data.toList) (by rw [aC];exact g)
 by_cases j:s.ph=3
 ·have u:dS gr al lim sid s pl.data.toList=aU (bC s [] 7):=by unfold dS;rw [Y6 j]
  rw [u]
  exact (QT h j).mono fun e w' h9=>⟨h9,uW (oV q Z2 Z3 (fun x F=>by cases F))⟩
 ·cases hd:dC pl.data.toList with
  | all e =>
   have hk:fu (dC pl.data.toList)=some ([kZ],e):=by rw [hd];rfl
   have u:dS gr al lim sid s pl.data.toList=aU (bC s [kZ] e):=by unfold dS;rw [Y5 j,hd];rfl
   rw [u]
   exact (PQ h g j hk).mono fun e w' h9=>⟨h9.1,uW (oV q h9.2 (mo hk).1 (mo hk).2)⟩
  | bad num R =>
   cases hk:fu (.bad num R) with
   | none =>
    obtain ⟨num,l,h9⟩:=D.2 XY;rw [hd] at h9;cases h9
   | some x =>
    obtain ⟨ps,k⟩:=x;have u:dS gr al lim sid s pl.data.toList=aU (bC s ps k):=by unfold dS;rw [Y5 j,hd];simp only [hk]
    rw [u]
    exact (PQ h g j XY).mono fun e w' h9=>⟨h9.1,uW (oV q h9.2 (mo XY).1 (mo XY).2)⟩
  | ok num l =>
   have B:=(D.1 num l hd).2;have u:dS gr al lim sid s pl.data.toList=aU (jS gr al lim sid s num l):=by unfold dS;rw [Y5 j,hd]
   rw [u]
   refine Calls.mono (R:=RTk W b cv (bs (txt sid)) (aU (jS gr al lim sid s num l))) ?_ fun e w' h9=>⟨h9,uW (R8 q num)⟩
   unfold jS
   by_cases v:num=5
   ·by_cases w:s.ph=0
    ·rw [Y6 ⟨v,w⟩]
     by_cases r:(atF l 0).s=fT
     ·rw [Y6 r]
      exact SX h g j hd v w r
     ·rw [Y5 r]
      exact Gx h g j hd v w r
    ·rw [Y5 Z0,Y5 Z0,Y5 Z0]
     exact Jt h g j hd v w
   ·rw [Y5 Z0]
    by_cases o:num=50
    ·by_cases C:s.ph=2
     ·rw [Y6 ⟨o,C⟩]
      exact UZ h g j hd o C
     ·rw [Y5 Z0]
      by_cases z:s.ph=1
      ·rw [Y6 ⟨o,z⟩]
       by_cases r:(atF l 1).s=dn
       ·rw [Y5 (by simpa using r)]
        exact Uu h g j hd o z r p11 p13 p14 grc alx B fine (fl j) f1 gl al1
       ·rw [Y6 r]
        exact Kn h g j hd o z r
      ·rw [Y5 Z0]
       exact Gd h g j hd o Z0
    ·rw [Y5 Z0,Y5 Z0]
     exact PZ h g j hd v o
end
end Go.Proofs.YtnhekaepgpbijaaGreatDoor
namespace Go.Proofs.YtnhekaepgpbijaaGreatDoor
open Go.Proofs.Tryz Go.RowKit
variable {g n:Int} {a s u:ByteArray}
def TJ:List Value:=[.string ⟨#[]⟩,.string ⟨#[]⟩,.string ⟨#[]⟩,.string ⟨#[]⟩,.string ⟨#[]⟩,.string ⟨#[]⟩,.string ⟨#[]⟩,.string ⟨#[]⟩,.string ⟨#[]⟩,.string ⟨#[]⟩,.string ⟨#[]⟩,.string ⟨#[]⟩,.int .i64 0,.int .u32 0,.int .u32 0,.int .u32 0,.string ⟨#[]⟩,.string ⟨#[]⟩,.int .i64 0,.int .i64 0,.int .i64 0,.int .i64 0,.int .i64 0,.int .i64 0,.int .i64 0,.int .i64 0]
theorem kDn:∃g,prog.keyLits 3 67 TJ=some g:=Option.isSome_iff_exists.1 Z1
theorem kN (h:W64 n) (d:Nat):prog.keyLits (d+1) 3 [.int .i64 n]=some [.int .i64 n]:=by
 have u:=underlying3;unfold W64 at h;simp [Program.keyLits,u,h]
theorem UY:W64 0:=by unfold W64;decide
theorem Vl:W64 4:=by unfold W64;decide
theorem kEv (o:W64 g) (p:Fs u) (q:Fs s) (r:Fs a) (v:W64 n):∃j,prog.keyLits 4 69 (evC g u s a n).toList=some j:=by
 obtain ⟨j,h⟩:=kDn;have u0:=underlying69;have c1:prog.cellsOf 3=1:=Z1;have c2:prog.cellsOf 9=1:=Z1;have c3:prog.cellsOf 39=1:=Z1;have c4:prog.cellsOf 67=26:=Z1;have c5:prog.cellsOf 69=34:=Z1;unfold TJ at h;refine ⟨[.int .i64 4,.int .i64 0,.int .i64 0,.int .i64 g,.string u.data.toList,.string s.data.toList,.string a.data.toList,.int .i64 n]++j,?_⟩;unfold evC Program.keyLits;simp [u0,c1,c2,c3,c4,c5,kN o,kN UY,kN Vl,kS p,kS q,kS r,kI v,h]
theorem PW (q:W64 g) (r:Fs u) (v:Fs s) (z:Fs a) (A:W64 n) (w:World) :
  (binOp .neq 69 (.agg (evC g u s a n)) (.agg (evC g u s a n))).run prog w=.ok (.bool false) w:=by
 obtain ⟨p,j⟩:=kEv q r v z A;obtain ⟨B,o,h⟩:=run_equalIn_deep 9996 4 69 Z1 w 4 4 (.agg (evC g u s a n)) (.agg (evC g u s a n)) p p rfl rfl j j;rw [run_neq_struct,show (10000:Nat)=9996+4 from rfl,o];rw [show B=true from h.2 rfl];rfl
theorem Py {w:World} {x:Operand} (o:Oper) (p:o.op=.load 69 x) (h:Operand->Value) {b:Nat} (q:h x=.pointer (some ⟨b,0,none⟩)) {g:Array Value} (hX:Blk w b 69 g) (j:g.toList.length=34) (hi:(prog.info? 69).map (·.size)=some 34) :
  (execOp h o).run prog w=.ok (.value (.agg g)) w:=by
 unfold execOp;have key:=run_loadAt_mid (P:=prog) w b 0 69 g.toList _ (vX XW) underlying69 rfl (by rw [j];exact hi);rw [YN] at key;simp only [p,q];simp [Sem.run_bind,key]
end Go.Proofs.YtnhekaepgpbijaaGreatDoor
namespace Go.Proofs.YtnhekaepgpbijaaGreatDoor
open Go.Proofs.Tryz Go.RowKit Go.ChangeShapes Go.WideShapes Go.Sort
variable {ps:List (List UInt8)} {k n:Int} {v:Value} {o:Option Tm} {w':World} {r:Nat} {t:TypeId} {cs:Array Value}
theorem LA {c:CfP} {no:Bool} (h:jo c no=some (ps,k)):k≠0/\∃q,ps=bZ :: q:=by
 refine ⟨(IL c no ps k h).1,?_⟩;unfold jo at h
 split at h
 ·cases h
  exact ⟨_,rfl⟩
 ·split at h
  ·cases h
  ·cases h
   exact ⟨_,rfl⟩
theorem Ot {w:World} {q:List (List UInt8)} (h:ErV w (some (ps,k)) v) (o:ps=bZ :: q):∀j,v≠.iface 43 (.int .i64 j):=by
 subst o;obtain ⟨b,v',rfl,_⟩:=h;intro j g;unfold aK at g;injection g with h1 h2;exact absurd h1 Z2
theorem FT (h:-1<=n) (j:n<=2147483647):W64 n:=by
 unfold W64;have g:IntKind.i64.min=-9223372036854775808:=Z2;simp [Lit.wf,g];omega
theorem Ry {T:List Tm} (h:Idn T o n) (g:T.length<=1000000):W64 n:=by
 cases o with
 | none=>rw [h.2 rfl];exact FT Z0 Z0
 | some t =>
  obtain ⟨i,rfl,hi⟩:=kM h.1;have:=(Yx.1 hi).1;exact FT Z0 Z0
theorem Qt (j:bD o) (hp:iM o=true):W64 (fC o:Nat):=by
 have h:=Uo j hp
 by_cases g:okN (fC o:Nat)=true
 ·unfold okN at g
  rw [YF,Yw,Yw] at g;exact FT Z0 g.2
 ·unfold lh at h
  rw [Y5 g] at h;rw [h] at hp;cases hp
theorem OY {w:World} {o:List UInt8} (h:EM w o v) (u:Blk w r t cs) (g:t≠9) (k:w.grownBy w' (some r)):EM w' o v :=
 ⟨h.1,fun q=>by
  obtain ⟨b,e,j⟩:=h.2 q
  exact ⟨b,e,j.grown k (fun p=>Blk.ne_ u j g (Y9 p).symm)⟩⟩
theorem wD {w:World} {o:List UInt8} (h:EM w o v) (j:Below w.heap.size w w'):EM w' o v :=
 ⟨h.1,fun p=>by
  obtain ⟨b,e,g⟩:=h.2 p
  exact ⟨b,e,g.below j g.lt⟩⟩
theorem RV {w:World} {o:Option (Nat × List UInt8 × List UInt8)} {sv:List UInt8} (h:EvV w n o sv v) (q:Blk w r t cs) (g:t≠69) (k:w.grownBy w' (some r)):EvV w' n o sv v:=by
 cases o with
 | none=>exact h
 | some x =>
  obtain ⟨b,e,j⟩:=h;exact ⟨b,e,j.grown k (fun p=>Blk.ne_ q j g (Y9 p).symm)⟩
theorem OD (w:World) (v0 v1 v2 v3 u0 u1:Value):∃g,g=(w.alloc (.cells #[v0,v1,v2,v3] 82)).alloc (.cells #[u0,u1] 45)/\Below w.heap.size w g/\Blk g w.heap.size 82 #[v0,v1,v2,v3]/\Blk g (w.heap.size+1) 45 #[u0,u1] :=
 ⟨_,rfl,Z4,(Blk.new w _ _).alloc _,bL w _ _ _⟩
theorem Si {w:World} {x y:Operand} (o:Oper) (q:o.op=.binOp .neq 69 x y t) (j:Operand->Value) {g:Array Value} (r:j x=.agg g) (u:j y=.agg g) (h:(binOp .neq 69 (.agg g) (.agg g)).run prog w=.ok (.bool false) w) :
  (execOp j o).run prog w=.ok (.value (.bool false)) w:=by
 unfold execOp;simp only [q,r,u];have p:=run_eqGuard_agg (P:=prog) (w:=w) .neq 69 x y g g Z1;simp [Sem.run_bind,h,p]
section
variable {w : World}
theorem Bd (hT:Tab w) (cc:kH w) (cb:gL w) (ce:iW w) (hH:Hand w) (c:CfP) (hc:c.W w) (sid:ByteArray) (ey:sid.size<=maxLen) {A:Option Addr} {d:Nat} {l:List (List UInt8)} (hl:Txs w (.slice A l.length d) l) (em:l.length<=maxLen) (eo:∀x∈l,x.length<=maxLen) :
  Calls prog 4 #[.agg (c.cells++#[Value.string sid]),.slice A l.length d] w (fun e w'=>e=.returned (.bool true)/\Below w.heap.size w w'):=by
 obtain ⟨cv,a4,ap⟩:=CO c;rw [a4];clear a4
 obtain ⟨W0,hW0⟩:∃W0,W0=w.alloc (.cells (cv++#[Value.string sid]) 73):=⟨_,rfl⟩
 have bd:Below w.heap.size w W0:=Zs
 have hX:StB W0 w.heap.size cv sid:=⟨Zk,ap.len⟩
 have HF:=hide (KN c (hc.below bd) ap sid ey (hl.below bd) em eo);have bw:=hide (fun (V:World) (hb:Below w.heap.size w V)=>BO (hT.below hb) (cc.below hb) (cb.below hb) (ce.below hb) (hH.below hb));have HV:=hide (fun (V:World) (hb:Below w.heap.size w V)=>Y4 (Y4 (hT.below hb) (cc.below hb)) (Y4 (cb.below hb) (Y4 (ce.below hb) (Y4 (hH.below hb) (Y4 (hc.below hb) (hl.below hb))))));have p0:=ap.p0;have p14:=ap.p14;have bb:=hide ap;have HX:=hide (Y4 bd hX);generalize aq:cv++#[Value.string sid]=cx at hW0 HF;clear hT cc cb ce hH hc hl ap bd
 cases hf:Rf c sid l with
 | false =>
  rw [hf] at HF;clear hf hX p0 p14;go_enter func4,ntmps4;go_upto_region 1 with fail;rw [<-hW0];clear hW0;have hX:=HX.out.2;refine wp_region_lit ?_;refine kT Z5 (.tmp 2) rfl Z5 hX ?_;rw [aq]
  try simp only [Act.put,J0,JT,Y0]
  refine aX (v:=.slice A l.length d) (w':=W0) Z5 Za ?_
  try simp only [Act.put,J0,JT,Y0]
  refine eQ (f:=17) Z5 Za HF.out ?_;rintro e w1 ⟨rfl,af⟩;refine ⟨_,rfl,?_⟩
  try simp only [Act.put,J0,JT,Y0]
  have B:=hide (HX.out.1.trans (af.mono HX.out.1.size));clear af hX HF HX aq;go_wp2_with fail;refine (bw.out _ B.out).mono ?_;rintro e w2 ⟨rfl,am⟩;go_wp2_with fail;go_ret;exact ⟨rfl,B.out.trans (am.mono B.out.size)⟩
 | true =>
  rw [hf] at HF
  have a5:l.length<=20/\c.fw=true/\sid.size<=300/\∀x∈l,x.length<=3000:=by
   unfold Rf at hf;simp only [YF,Yw] at hf;exact ⟨hf.1.1.1,hf.1.1.2,hf.1.2,fun x hx=>by have:=List.all_eq_true.1 hf.2 x hx;simpa using this⟩
  have hal:=CfP.fw_len a5.2.1;clear hf hX;go_enter func4,ntmps4;go_upto_region 1 with fail;rw [<-hW0];clear hW0;have hX:=HX.out.2;refine wp_region_lit ?_;refine kT Z5 (.tmp 2) rfl Z5 hX ?_;rw [aq]
  try simp only [Act.put,J0,JT,Y0]
  refine aX (v:=.slice A l.length d) (w':=W0) Z5 Za ?_
  try simp only [Act.put,J0,JT,Y0]
  refine eQ (f:=17) Z5 Za HF.out ?_;rintro e w1 ⟨rfl,af⟩;refine ⟨_,rfl,?_⟩
  try simp only [Act.put,J0,JT,Y0]
  have bm:=HX.out.1.trans (af.mono HX.out.1.size);have cE:=hide (HX.out.2.below af);have e0:w.heap.size<w1.heap.size:=cE.out.blk.lt;have HN:=hide (zS w1);have B:=hide bm;clear af bm hX HF HX
  go_upto_region 4 with (first
   | (go_at_call 8;refine HN.out.mono ?_;rintro e w2 ⟨g,S,rfl,hA,am⟩)
   | fail)
  have HP:=hide (Pay.new (HV.out _ B.out).1.1 (HV.out _ B.out).1.2 (Below.refl _ _) hA am);have cf:=cE.out.below am;have cW:=B.out.trans (am.mono B.out.size);have HS:=hide (Fj c bb.out (HV.out _ B.out).2.1 (HV.out _ B.out).2.2.1 ((HV.out _ B.out).2.2.2.2.1.m a5.2.1) (HV.out _ B.out).2.2.2.2.1.u0 (HV.out _ B.out).2.2.2.2.1.u1 (HV.out _ B.out).2.2.2.2.1.u2 HP.out Z3 sid a5.2.2.1);have eL:w.heap.size<w2.heap.size:=cf.blk.lt;clear hA am HN;refine wp_region_lit ?_;refine kT Z5 (.tmp 2) rfl Z5 cf ?_;rw [aq]
  try simp only [Act.put,J0,JT,Y0]
  refine aX (v:=.pointer (some ⟨g,0,none⟩)) (w':=w2) Z5 Za ?_
  try simp only [Act.put,J0,JT,Y0]
  rw [<-aq];refine eQ (f:=19) Z5 Za HS.out ?_;rintro e w3 ⟨n,p,er,bq,y,T3,S3,rfl,hy,hR⟩;refine ⟨_,rfl,?_⟩
  try simp only [Act.put,J0,JT,Y0]
  have HR:=hide hR;have Hy:=hide hy;clear hR hy HS cf cW aq cx;generalize cv++#[Value.string sid]=cy;have dy:w1.heap.size<=w2.heap.size:=HP.out.use.base;generalize dt:qx (jo c (sid.toList == ([]:List UInt8)))=kk;have cH:=hide dt;clear dt;rcases fq (jo c (sid.toList == ([]:List UInt8))) with he | ⟨⟨ps,k⟩,he⟩
  ·have O:=HR.out.er
   rw [he] at O;have dc:er=.nilIface:=O;subst dc;obtain ⟨a4,cg,ei⟩:=TN he;obtain ⟨lo,hi,cL,bg,A9,c9,A8,c8,en,dk,rfl,cP⟩:=HR.out.ok he;have eK:=M0 (c.deny a4 cg)
   obtain ⟨w4,P⟩:∃W4,W4=w3.alloc (.cells #[.int .i64 kk,.string y] 45):=⟨_,rfl⟩
   have X:Below w3.heap.size w3 w4:=by rw [P];exact aT _
   have cQ:=cP.below X;have el:T3.length<=2:=by have:=HR.out.len;simpa using this
   have K:kk=0:=by rw [<-cH.out,he];rfl
   subst K;have U:Blk w4 w3.heap.size 45 #[.int .i64 0,.string y]:=by rw [P];exact Blk.new w3 _ _
   have q0:=U.cell 0;have q1:=U.cell 1;simp only [Jx,Q1,Q2] at q0 q1;have aw:=hide (fun (V:World)=>wM y V);have cp:=hide cQ;have cz:=hide (HR.out.ref.below X);have bl:=hide (fun h9=>Nat.lt_irrefl _ (HR.out.sb bq h9):¬ S3 bq);have b5:=hide (show hi<=bq/\w1.heap.size<=bq from ⟨dk,Yg dy HR.out.lb⟩);clear cP X cQ O a4 cg ei HR he dk en U;go_upto_region 5 with fail;rw [<-P];clear P
   go_wp2_with (first
    | (go_at_call 20;refine (aw.out _).mono ?_;rintro e w5 ⟨rfl,hb5⟩;replace q0:=aA hb5 q0;replace q1:=aA hb5 q1)
    | fail)
   have cq:=hide (cp.out.below hb5);have cA:=hide (cz.out.below hb5);clear hb5 aw q0 q1 cp cz
   go_loopw [14] (fun vi wr=>∃(i many:Nat) (T:List Tm) (S':Nat->Prop) (s:SvS),vi=.int .i64 i/\i<=l.length/\Hid (di w1 w1.heap.size g lo hi cL bg A9 c9 c.gr A8 c8 c.al c.lim n (jF sid) T S' s wr)/\Hid (RU c.lim s many)/\T.length<=zU i/\Hid (RSv wr bq cv (bs (txt (jF sid))) s)/\Hid (¬ S' bq)/\s.ph<=3) (fun vi _=>l.length - (intOf vi).toNat)
   case atStart=>exact ⟨0,0,T3,S3,⟨0,0⟩,rfl,Yb _,cq,hide ⟨by show ((0:Nat):Int)<=_;omega,fun _=>by show ((0:Nat):Int)<_;omega,Yb _,fun _=>rfl⟩,by unfold zU;omega,cA,bl,Yb _⟩
   case round =>
    obtain ⟨i,many,T,S',s,rfl,eW,HM,HI,eJ,HQ,cI,eu⟩:=hrel;have cg:=LQ i;have eV:=Ol (i:=i) Z0;have bh:=HM.out.pay.bel;clear cq cA bl el
    by_cases bt:i<l.length
    ·have ek:(i:Int)<l.length:=by omega
     obtain ⟨A',d',hv,hA⟩:=((HV.out _ B.out).2.2.2.2.2).open_;obtain ⟨rfl,rfl⟩:A'=A/\d'=d:=Z8;obtain ⟨ad,rfl,hab,a3⟩:=hA i bt;have R:=a5.2.2.2 l[i] (Yf bt);generalize l[i]=m at a3 R;have br:s.fl<=1000:=by have:=HI.out.fle;omega
     have HT:=hide (K7 HM.out (bs m) R Z0 HI.out.fl br Z0 Z0);have av:=hide (fun (V:World) (hb:Below w1.heap.size w1 V) (hR:RSv V bq cv (bs (txt (jF sid))) s)=>JJ (gr:=c.gr) (al:=c.al) (lim:=c.lim) hR (pl:=bs m) R eu bb.out.p11 bb.out.p13 bb.out.p14 (((HV.out _ B.out).2.2.2.2.1.below hb).cw.hgr) (((HV.out _ B.out).2.2.2.2.1.below hb).cw.hal) (L6 a5.2.2.1) HI.out.fl br Z0 Z0);rw [show (bs m).data.toList=m from aO m] at HT av;have a8:=hide (O1 (gr:=c.gr) (al:=c.al) (sid:=jF sid) HI.out m);generalize dS c.gr c.al c.lim (jF sid) s m=o at HT a8 av;have Hm:=hide R;generalize cX:bs m=x at a3 HT av;have Hx:=hide cX;have eg:=(bh.cell X8).trans a3;have cF:=hide (Y4 hab a3);clear hA hv R cX hab a3
     have cl:¬ SB cL bg S' bq:=fun h9=>by
      have h8:=HM.out.his;have h7:=HM.out.hig;have h6:=b5.out.1;rcases h9 with h9 | h9 | h9
      ·exact cI.out h9
      ·omega
      ·omega
     go_upto_region 14 with (first
      | (go_at_call 21;refine HT.out.mono ?_;rintro e w7 ⟨T7,S7,ov,ev,er,rfl,ho,de,hr,et,du,ca,b9⟩)
      | fail)
     have a0:=ca.pay.bel
     have cd:RSv w7 bq cv (bs (txt (jF sid))) s:=⟨HQ.out.size,b9.outs.blk HQ.out.blk cl⟩
     have d6:¬ S7 bq:=fun h9=>b9.notin2 cl HQ.out.blk.lt (.inl h9)
     have cC:=hide (av.out w7 a0 cd);have eh:=(a0.cell (by rw [ax];exact cF.out.1)).trans cF.out.2;have cr:=hide ca;have ba:=hide cd;have a9:=hide (Y4 ho (Y4 de hr));have cJ:=hide du;have b7:=hide d6;clear HT av ho de hr et ca b9 cd d6 cl eg HQ cI HM bh du;go_wp2_with fail;refine cC.out.mono ?_;rintro e w8 ⟨⟨z,is,eI,u,a,k,y2,rfl,hv,cT,aE⟩,db⟩;obtain ⟨w9,d3,an,cM,cU⟩:=OD w8 (.bool is) (.int .i64 eI) (.string u) (.string a) (.int .i64 k) (.string y2);have cR:=cr.out.row aE b7.out b5.out.2 b5.out.1;have cS:=OY a9.out.1 ba.out.blk Z2 aE;have cV:=RV a9.out.2.1 ba.out.blk Z2 aE;have d2:=ErV.own a9.out.2.2 ba.out.blk Z2 aE;have Q:=hide (cR.below an);have ac:=hide (cT.below an);have ab:=hide (Y4 (wD cS an) (Y4 (cV.below an) (d2.below an)));have cY:Below w1.heap.size w1 w9:=Q.out.pay.bel;have N:=hide cM;have cD:=hide cU;have Hv:=hide hv;have bc:=hide db;clear aE cR cT cS cV d2 an cM cU cC cr ba a9 eh a0 hv db;go_upto_region 15 with fail;rw [<-d3];clear d3;have GS:=hide (fun J L=>Calls.regrown_of ((Ey (wD ab.out.1 (below_regrown w9 J L))).mono fun e w' h9=>(⟨h9.1,h9.2⟩:e=.returned (.bool true)/\Below _ _ w')))
     have GT:=hide (fun J L=>Calls.regrown_of ((xW (o:=o.2.err) (fun ps k h9=>by
      obtain ⟨e1,e2,e3,_⟩:=bc.out.1 ps k h9
      exact ⟨e1,e2,e3⟩) (ab.out.2.2.below (below_regrown w9 J L)) (by
      rcases fq o.2.err with h8 | ⟨⟨ps,k⟩,h8⟩
      ·have h9:=ab.out.2.2
       rw [h8] at h9;have ee:er=.nilIface:=h9;intro j hj;rw [ee] at hj;cases hj
      ·have h9:=ab.out.2.2
       obtain ⟨_,_,_,q,e4⟩:=bc.out.1 ps k h8;rw [h8] at h9
       exact Ot h9 e4) ((HV.out _ (B.out.trans (cY.mono B.out.size))).2.2.2.1.below (below_regrown w9 J L))).mono fun e w' h9=>(⟨h9.1,h9.2⟩:e=.returned (.bool true)/\Below _ _ w')))
     rw [<-Hv.out.out] at GS;rw [<-Hv.out.k,<- Hv.out.y] at GT;have G1:=hide (fun J L=>Calls.regrown_of ((Rc (Q.out.below (below_regrown w9 J L))).mono fun e w' h9=>(⟨h9.1,by rw [<-h9.2];exact Below.refl _ _⟩:e=.returned (.int .i64 ((o.1.fl:Nat):Int))/\Below _ _ w')));have G2:=hide (fun J L=>Calls.regrown_of ((QI (Q.out.below (below_regrown w9 J L))).mono fun e w' h9=>(⟨h9.1,by rw [<-h9.2];exact Below.refl _ _⟩:e=.returned (.bool (decide (o.1.ph=2)))/\Below _ _ w')));have cn:=fun J L=>cell_regrown (v:=.int .i64 ((o.1.ph:Nat):Int)) ac.out.ph J L
     have co:=fun J L=>cell_regrown (v:=.int .i64 ((o.1.fl:Nat):Int)) ac.out.fl J L
     have b0:=fun J L=>cell_regrown (v:=.bool is) (N.out.cell 0) J L
     have r0:=fun J L=>cell_regrown (v:=.int .i64 k) (cD.out.cell 0) J L
     have r1:=fun J L=>cell_regrown (v:=.string y2) (cD.out.cell 1) J L
     have d1:(((o.1.ph:Nat):Int) == 2)=decide (o.1.ph=2):=by
      by_cases h2:o.1.ph=2
      ·rw [h2];rfl
      ·rw [Y7 h2,Y3];omega
     generalize decide (o.1.ph=2)=pz at G2 d1;generalize ((o.1.ph:Nat):Int)=pq at cn d1;generalize ((o.1.fl:Nat):Int)=fo at G1 co;rcases a8.out with ⟨I,hI,_⟩ | ⟨y6,I,h1,ep,hI,es,ej,D,hd,hP⟩
     ·have dg:ev=.slice none 0 0:=by
       have h9:=ab.out.2.1;rw [I] at h9;exact h9
      subst dg;have his:is=false:=Hv.out.no I;subst his;have bx:=hide hI;have Y:T7.length<=zU (i+1):=by have:=cJ.out;omega
      clear hI I a8;refine wp_region_quiet_below Z1 Z1 ?_
      repeat (first | go_big_quiet_skip | quiet_step ((first | (go_at_call 25;with_reducible exact GS.out _ _) | (go_at_call 20;with_reducible exact GT.out _ _) | (go_at_call 23;with_reducible exact G1.out _ _) | (go_at_call 22;with_reducible exact G2.out _ _))))
      refine wpQuiet_nil ?_;intro _ ci;obtain ⟨⟨dq,osq⟩,a6⟩:=ci;subst a6;have F:=below_regrown w9 dq osq;generalize grow (redrawn w9 dq) osq=wq at F ⊢;clear cn co b0 r0 r1 G1 G2 GS GT;have b3:=hide (Q.out.below F);have b4:=hide (ac.out.below F);have c0:=N.out.below F N.out.lt;have c0:=c0.cell 0;simp only [Jx,Q1] at c0;clear Q ac F;go_upto_region 17 with fail;have ea:=fun J L=>cell_regrown (v:=.bool false) c0 J L
      clear c0;refine wp_region_quiet_below Z1 Z1 ?_
      repeat (first | go_big_quiet_skip | quiet_step (fail))
      refine wpQuiet_nil ?_;intro _ eE;obtain ⟨⟨dr,d7⟩,d4⟩:=eE;subst d4;have G:=below_regrown wq dr d7;generalize grow (redrawn wq dr) d7=wz at G ⊢;clear ea;go_wp2_with fail;exact ⟨⟨i+1,many,T7,S7,o.1,rfl,Z0,hide (b3.out.below G),bx,Y,hide (b4.out.below G),b7,bc.out.2⟩,Zh⟩
     ·have Y:T7.length<=zU (i+1):=by have:=cJ.out;omega
      obtain ⟨dv,ck,da,aa,ez⟩:=hP;have dj:EvV w9 n (some (fC (ofT (atF D 5).s),(atF D 0).s,(atF D 4).s)) dn ev:=by rw [<-ck,<- I];exact ab.out.2.1
      obtain ⟨eb,rfl,cN⟩:=dj;obtain ⟨dp,eC,eA,ef⟩:=Hv.out.ev _ _ _ (by rw [I,ck]);subst dp eC eA ef;have bx:=hide hI;have a7:=hide cN;have hK:=O5 (p:=m) (by have:=Hm.out;omega);have bj:=(hK.1 50 D hd).2
      have dT:iM (ofT (atF D 5).s)=true:=by
       unfold nM at aa;simp only [YF] at aa;exact aa.1
      have ds:bD (ofT (atF D 5).s):=by
       obtain ⟨t,ht,hf,_⟩:=mG (s:=(atF D 5).s) (by have:=bj 5;omega);rw [ht];exact dZ hf
      have cs:=hide (fun (V:World)=>PW (Qt ds dT) (u:=bs (atF D 0).s) (s:=bs dn) (a:=bs (atF D 4).s) (n:=n) (by show (atF D 0).s.length<=_;have:=bj 0;unfold maxLen;omega) (by show dn.length<=_;decide) (by show (atF D 4).s.length<=_;have:=bj 4;unfold maxLen;omega) (Ry Q.out.id Z0) V);clear hI I a8 cN hK bj dT ds ck da aa ez hd dv ej es h1 ep;generalize Z:evC (fC (ofT (atF D 5).s):Nat) (bs (atF D 0).s) (bs dn) (bs (atF D 4).s) n=ec at a7 cs;have bp:ec.toList.length=34:=by rw [<-Z];rfl
      generalize ((fC (ofT (atF D 5).s):Nat):Int)=wh at Z N;generalize bs (atF D 0).s=u0 at Z N;generalize bs (atF D 4).s=u4 at Z N;rw [show bs dn=(⟨#[115,115,104,45,99,111,110,110,101,99,116,105,111,110]⟩:ByteArray) from rfl] at Z;have d9:=hide Z;have cG:=hide bp;clear Z bp;refine wp_region_quiet_below Z1 Z1 ?_
      repeat (first | go_big_quiet_skip | quiet_step ((first | (go_at_call 25;with_reducible exact GS.out _ _) | (go_at_call 20;with_reducible exact GT.out _ _) | (go_at_call 23;with_reducible exact G1.out _ _) | (go_at_call 22;with_reducible exact G2.out _ _))))
      refine wpQuiet_nil ?_;intro _ ci;obtain ⟨⟨dq,osq⟩,a6⟩:=ci;subst a6;have F:=below_regrown w9 dq osq;generalize grow (redrawn w9 dq) osq=wq at F ⊢;clear cn co b0 r0 r1 G1 G2 GS GT;have b3:=hide (Q.out.below F);have b4:=hide (ac.out.below F);have hc:=N.out.below F N.out.lt;have b8:=a7.out.below F a7.out.lt;have c0:=hc.cell 0;have c1:=hc.cell 1;have c2:=hc.cell 2;have c3:=hc.cell 3;simp only [Jx,Q1,Q2] at c0 c1 c2 c3;clear Q ac F hc N a7;go_upto_region 17 with fail;refine fJ (fun V=>Blk V eb 69 ec/\V.cell? ⟨w8.heap.size,0,none⟩=some (.bool true)/\V.cell? ⟨w8.heap.size,1,none⟩=some (.int .i64 wh)/\V.cell? ⟨w8.heap.size,2,none⟩=some (.string u0)/\V.cell? ⟨w8.heap.size,3,none⟩=some (.string u4)) (fun i=>decide (i<99)) Z1 ?_
      obtain ⟨wz,cj⟩:∃Wd,Wd=wq.drew:=⟨_,rfl⟩
      have G:Below wq.heap.size wq wz:=by rw [cj];exact (Below.refl _ _).drew
      have C:Blk wz eb 69 ec/\wz.cell? ⟨w8.heap.size,0,none⟩=some (.bool true)/\wz.cell? ⟨w8.heap.size,1,none⟩=some (.int .i64 wh)/\wz.cell? ⟨w8.heap.size,2,none⟩=some (.string u0)/\wz.cell? ⟨w8.heap.size,3,none⟩=some (.string u4):=⟨b8.below G b8.lt,aA G c0,aA G c1,aA G c2,aA G c3⟩
      rw [<-cj];clear cj c0 c1 c2 c3 b8;refine ak (i:=0) (oi:=?_) (v:=.pointer (some ⟨w8.heap.size,0,none⟩)) ?_ ?_ ?_ ?_ ?_ ?_ ?_ C ?_;rotate_left 1
      ·(first | (simp only [Jx,Q2,Q1];exact rfl) | exact rfl)
      ·kernel_rfl
      ·kernel_rfl
      ·kernel_rfl
      ·kernel_rfl
      ·exact fun _ _ _ h=>h
      ·refine Or.inl ⟨Z5,fun w r=>?_⟩
       clear r;go_simp
      try simp only [Act.put,J0,JT,Y0]
      refine ak (i:=1) (oi:=?_) (v:=.bool true) ?_ ?_ ?_ ?_ ?_ ?_ ?_ C ?_;rotate_left 1
      ·(first | (simp only [Jx,Q2,Q1];exact rfl) | exact rfl)
      ·kernel_rfl
      ·kernel_rfl
      ·kernel_rfl
      ·kernel_rfl
      ·exact fun _ _ _ h=>h
      ·refine Or.inl ⟨Z5,fun w r=>?_⟩
       have g0:=r.2.1;clear r;go_simp
      try simp only [Act.put,J0,JT,Y0]
      refine ak (i:=2) (oi:=?_) (v:=.bool true) ?_ ?_ ?_ ?_ ?_ ?_ ?_ C ?_;rotate_left 1
      ·(first | (simp only [Jx,Q2,Q1];exact rfl) | exact rfl)
      ·kernel_rfl
      ·kernel_rfl
      ·kernel_rfl
      ·kernel_rfl
      ·exact fun _ _ _ h=>h
      ·refine Or.inl ⟨Z5,fun w r=>?_⟩
       clear r;go_simp
      try simp only [Act.put,J0,JT,Y0]
      refine ak (i:=3) (oi:=?_) (v:=.slice (some ⟨eb,0,none⟩) 1 1) ?_ ?_ ?_ ?_ ?_ ?_ ?_ C ?_;rotate_left 1
      ·(first | (simp only [Jx,Q2,Q1];exact rfl) | exact rfl)
      ·kernel_rfl
      ·kernel_rfl
      ·kernel_rfl
      ·kernel_rfl
      ·exact fun _ _ _ h=>h
      ·refine Or.inl ⟨Z5,fun w r=>?_⟩
       clear r;go_simp
      try simp only [Act.put,J0,JT,Y0]
      refine ak (i:=4) (oi:=?_) (v:=.pointer (some ⟨eb,0,none⟩)) ?_ ?_ ?_ ?_ ?_ ?_ ?_ C ?_;rotate_left 1
      ·(first | (simp only [Jx,Q2,Q1];exact rfl) | exact rfl)
      ·kernel_rfl
      ·kernel_rfl
      ·kernel_rfl
      ·kernel_rfl
      ·exact fun _ _ _ h=>h
      ·refine Or.inl ⟨Z5,fun w r=>?_⟩
       clear r;go_simp
      try simp only [Act.put,J0,JT,Y0]
      refine ak (i:=5) (oi:=?_) (v:=.agg ec) ?_ ?_ ?_ ?_ ?_ ?_ ?_ C ?_;rotate_left 1
      ·(first | (simp only [Jx,Q2,Q1];exact rfl) | exact rfl)
      ·kernel_rfl
      ·kernel_rfl
      ·kernel_rfl
      ·kernel_rfl
      ·exact fun _ _ _ h=>h
      ·refine Or.inl ⟨Z5,fun w r=>?_⟩
       exact Py _ rfl _ Z5 r.1 cG.out QA
      try simp only [Act.put,J0,JT,Y0]
      refine ak (i:=6) (oi:=?_) (v:=.pointer (some ⟨w8.heap.size,1,none⟩)) ?_ ?_ ?_ ?_ ?_ ?_ ?_ C ?_;rotate_left 1
      ·(first | (simp only [Jx,Q2,Q1];exact rfl) | exact rfl)
      ·kernel_rfl
      ·kernel_rfl
      ·kernel_rfl
      ·kernel_rfl
      ·exact fun _ _ _ h=>h
      ·refine Or.inl ⟨Z5,fun w r=>?_⟩
       clear r;go_simp
      try simp only [Act.put,J0,JT,Y0]
      refine ak (i:=7) (oi:=?_) (v:=.int .i64 wh) ?_ ?_ ?_ ?_ ?_ ?_ ?_ C ?_;rotate_left 1
      ·(first | (simp only [Jx,Q2,Q1];exact rfl) | exact rfl)
      ·kernel_rfl
      ·kernel_rfl
      ·kernel_rfl
      ·kernel_rfl
      ·exact fun _ _ _ h=>h
      ·refine Or.inl ⟨Z5,fun w r=>?_⟩
       have g0:=r.2.2.1;clear r;go_simp
      try simp only [Act.put,J0,JT,Y0]
      refine ak (i:=8) (oi:=?_) (v:=.pointer (some ⟨w8.heap.size,2,none⟩)) ?_ ?_ ?_ ?_ ?_ ?_ ?_ C ?_;rotate_left 1
      ·(first | (simp only [Jx,Q2,Q1];exact rfl) | exact rfl)
      ·kernel_rfl
      ·kernel_rfl
      ·kernel_rfl
      ·kernel_rfl
      ·exact fun _ _ _ h=>h
      ·refine Or.inl ⟨Z5,fun w r=>?_⟩
       clear r;go_simp
      try simp only [Act.put,J0,JT,Y0]
      refine ak (i:=9) (oi:=?_) (v:=.string u0) ?_ ?_ ?_ ?_ ?_ ?_ ?_ C ?_;rotate_left 1
      ·(first | (simp only [Jx,Q2,Q1];exact rfl) | exact rfl)
      ·kernel_rfl
      ·kernel_rfl
      ·kernel_rfl
      ·kernel_rfl
      ·exact fun _ _ _ h=>h
      ·refine Or.inl ⟨Z5,fun w r=>?_⟩
       have g0:=r.2.2.2.1;clear r;go_simp
      try simp only [Act.put,J0,JT,Y0]
      refine ak (i:=10) (oi:=?_) (v:=.pointer (some ⟨w8.heap.size,3,none⟩)) ?_ ?_ ?_ ?_ ?_ ?_ ?_ C ?_;rotate_left 1
      ·(first | (simp only [Jx,Q2,Q1];exact rfl) | exact rfl)
      ·kernel_rfl
      ·kernel_rfl
      ·kernel_rfl
      ·kernel_rfl
      ·exact fun _ _ _ h=>h
      ·refine Or.inl ⟨Z5,fun w r=>?_⟩
       clear r;go_simp
      try simp only [Act.put,J0,JT,Y0]
      refine ak (i:=11) (oi:=?_) (v:=.string u4) ?_ ?_ ?_ ?_ ?_ ?_ ?_ C ?_;rotate_left 1
      ·(first | (simp only [Jx,Q2,Q1];exact rfl) | exact rfl)
      ·kernel_rfl
      ·kernel_rfl
      ·kernel_rfl
      ·kernel_rfl
      ·exact fun _ _ _ h=>h
      ·refine Or.inl ⟨Z5,fun w r=>?_⟩
       have g0:=r.2.2.2.2;clear r;go_simp
      try simp only [Act.put,J0,JT,Y0]
      refine ak (i:=12) (oi:=?_) (v:=.int .i64 n) ?_ ?_ ?_ ?_ ?_ ?_ ?_ C ?_;rotate_left 1
      ·(first | (simp only [Jx,Q2,Q1];exact rfl) | exact rfl)
      ·kernel_rfl
      ·kernel_rfl
      ·kernel_rfl
      ·kernel_rfl
      ·exact fun _ _ _ h=>h
      ·refine Or.inl ⟨Z5,fun w r=>?_⟩
       clear r;go_simp
      try simp only [Act.put,J0,JT,Y0]
      refine ak (i:=13) (oi:=?_) (v:=.agg #[.int .i64 4,.int .i64 0,.int .i64 0,.int .i64 wh,.string u0,.string ⟨#[115,115,104,45,99,111,110,110,101,99,116,105,111,110]⟩,.string u4,.int .i64 n,.string ⟨#[]⟩,.string ⟨#[]⟩,.string ⟨#[]⟩,.string ⟨#[]⟩,.string ⟨#[]⟩,.string ⟨#[]⟩,.string ⟨#[]⟩,.string ⟨#[]⟩,.string ⟨#[]⟩,.string ⟨#[]⟩,.string ⟨#[]⟩,.string ⟨#[]⟩,.int .i64 0,.int .u32 0,.int .u32 0,.int .u32 0,.string ⟨#[]⟩,.string ⟨#[]⟩,.int .i64 0,.int .i64 0,.int .i64 0,.int .i64 0,.int .i64 0,.int .i64 0,.int .i64 0,.int .i64 0]) ?_ ?_ ?_ ?_ ?_ ?_ ?_ C ?_;rotate_left 1
      ·(first | (simp only [Jx,Q2,Q1];exact rfl) | exact rfl)
      ·kernel_rfl
      ·kernel_rfl
      ·kernel_rfl
      ·kernel_rfl
      ·exact fun _ _ _ h=>h
      ·refine Or.inl ⟨Z5,fun w r=>?_⟩
       clear r;go_simp
      try simp only [Act.put,J0,JT,Y0]
      rw [show (.agg #[.int .i64 4,.int .i64 0,.int .i64 0,.int .i64 wh,.string u0,.string ⟨#[115,115,104,45,99,111,110,110,101,99,116,105,111,110]⟩,.string u4,.int .i64 n,.string ⟨#[]⟩,.string ⟨#[]⟩,.string ⟨#[]⟩,.string ⟨#[]⟩,.string ⟨#[]⟩,.string ⟨#[]⟩,.string ⟨#[]⟩,.string ⟨#[]⟩,.string ⟨#[]⟩,.string ⟨#[]⟩,.string ⟨#[]⟩,.string ⟨#[]⟩,.int .i64 0,.int .u32 0,.int .u32 0,.int .u32 0,.string ⟨#[]⟩,.string ⟨#[]⟩,.int .i64 0,.int .i64 0,.int .i64 0,.int .i64 0,.int .i64 0,.int .i64 0,.int .i64 0,.int .i64 0]:Value)=.agg ec from Ye Value.agg d9.out];refine ak (i:=14) (oi:=?_) (v:=.bool false) ?_ ?_ ?_ ?_ ?_ ?_ ?_ C ?_;rotate_left 1
      ·(first | (simp only [Jx,Q2,Q1];exact rfl) | exact rfl)
      ·kernel_rfl
      ·kernel_rfl
      ·kernel_rfl
      ·kernel_rfl
      ·exact fun _ _ _ h=>h
      ·refine Or.inl ⟨Z5,fun w r=>?_⟩
       exact Si _ rfl _ Z5 Z5 (cs.out w)
      try simp only [Act.put,J0,JT,Y0]
      refine ak (i:=15) (oi:=?_) (v:=.bool false) ?_ ?_ ?_ ?_ ?_ ?_ ?_ C ?_;rotate_left 1
      ·(first | (simp only [Jx,Q2,Q1];exact rfl) | exact rfl)
      ·kernel_rfl
      ·kernel_rfl
      ·kernel_rfl
      ·kernel_rfl
      ·exact fun _ _ _ h=>h
      ·refine Or.inl ⟨Z5,fun w r=>?_⟩
       clear r;go_simp
      try simp only [Act.put,J0,JT,Y0]
      refine cB Z1 ?_ _;clear C;go_wp2_with fail;exact ⟨⟨i+1,1,T7,S7,o.1,rfl,Z0,hide (b3.out.below G),bx,Y,hide (b4.out.below G),b7,bc.out.2⟩,Zh⟩
    ·obtain rfl:i=l.length:=by omega
     have ek:¬ (l.length:Int)<l.length:=Z0;have ao:=B.out.trans (bh.mono B.out.size);clear HM bh;go_wp2_with fail;refine (bw.out _ ao).mono ?_;rintro e w6 ⟨rfl,be⟩;go_wp2_with fail;go_ret;exact ⟨rfl,ao.trans (be.mono ao.size)⟩
  ·have O:=HR.out.er
   rw [he] at O;obtain ⟨ch,q,hq⟩:=LA he;have ew:=HR.out.no (by rw [he];simp);subst ew;have K:kk=k:=by rw [<-cH.out,he];rfl
   have d5:y=bs (atL ps):=by rw [Hy.out,he];rfl
   have d0:=IL c _ ps k he;have I:=Ot O hq;obtain ⟨te,ue,rfl⟩:=aZ.shape (show aZ w3 er ps k from O);have ao:=B.out.trans (HR.out.pay.bel.mono B.out.size);have eM:(kk != 0)=true:=by rw [YG,K];exact ch
   have eN:(kk == 0)=false:=by rw [Y3,K];exact ch
   obtain ⟨w4,P⟩:∃W4,W4=w3.alloc (.cells #[.int .i64 kk,.string y] 45):=⟨_,rfl⟩
   have X:Below w3.heap.size w3 w4:=by rw [P];exact aT _
   have U:Blk w4 w3.heap.size 45 #[.int .i64 kk,.string y]:=by rw [P];exact Blk.new w3 _ _
   have q0:=U.cell 0;have q1:=U.cell 1;simp only [Jx,Q1,Q2] at q0 q1;have aF:=ao.trans (X.mono ao.size)
   have aw:=hide (show Calls prog 20 #[.iface te ue,.agg #[.int .i64 kk,.string y]] w4 (fun e w'=>e=.returned (.bool true)/\Below w4.heap.size w4 w') from by
    have h9:=xW (o:=some (ps,k)) (fun e5 k' h8=>by cases h8;exact d0) (ErV.below (show ErV w3 (some (ps,k)) (.iface te ue) from O) X) I (HV.out _ aF).2.2.2.1;rw [K,d5]
    exact h9)
   clear O HR he X U K d5 d0 I ch hq;have ct:=hide (fun V=>Ox ⟨#[]⟩ V);go_upto_region 5 with fail;rw [<-P];clear P
   go_upto_region 7 with (first
    | (go_at_call 20;refine aw.out.mono ?_;rintro e w5 ⟨rfl,hb5⟩;replace q0:=aA hb5 q0;replace q1:=aA hb5 q1)
    | fail)
   have bn:=aF.trans (hb5.mono aF.size);clear aw q0 q1 hb5;go_wp2_with fail;refine (ct.out _).mono ?_;rintro e w6 ⟨b6,rfl,dl,be⟩;have bo:=bn.trans (be.mono bn.size);have d8:=hide (fun (V:World) (hb:Below w6.heap.size w6 V)=>show Calls prog 20 #[.iface 168 (.pointer (some ⟨b6,0,none⟩)),.agg #[.int .i64 7,.string ⟨#[97,117,116,104,115,32]⟩]] V (fun e w'=>e=.returned (.bool true)/\Below V.heap.size V w') from pY (b:=b6) (ps:=[bZ]) (k:=7) Z2 Z2 (fun p hp=>Xm) (dl.below hb) (HV.out _ (bo.trans (hb.mono bo.size))).2.2.2.1);unfold aK;clear dl be ct
   go_wp2_with (first
    | (go_at_call 18;refine (bw.out _ Z4).mono ?_;rintro e w7 ⟨rfl,eR⟩)
    | (go_at_call 20;refine (d8.out _ Z4).mono ?_;rintro e w8 ⟨rfl,eS⟩)
    | (go_at_call 22;refine (Q7 _).mono ?_;rintro e w9 ⟨rfl,rfl⟩)
    | (go_at_call 23;refine (QV _).mono ?_;rintro e w9 ⟨rfl,rfl⟩)
    | fail)
   go_ret;exact ⟨rfl,Z4⟩
end
end Go.Proofs.YtnhekaepgpbijaaGreatDoor
