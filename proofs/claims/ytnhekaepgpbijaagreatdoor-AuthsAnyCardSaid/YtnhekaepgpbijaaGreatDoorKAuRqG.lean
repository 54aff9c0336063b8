/- Several of my texts in one: AuRu, AuRq, AuRg. -/
import Derived.Test.YtnhekaepgpbijaaGreatDoorKAli
import Derived.Test.YtnhekaepgpbijaaGreatDoorKAuKG
import Derived.Test.YtnhekaepgpbijaaGreatDoorKSignCG
import Derived.Test.YtnhekaepgpbijaaGreatDoorKAsG
import Derived.Test.YtnhekaepgpbijaaGreatDoorKCfAoG
import Derived.Deep.MidRow
import Derived.Test.YtnhekaepgpbijaaGreatDoorKPrfGG
import Derived.Deep.DeepCutAuto
set_option linter.unusedVariables false
set_option linter.unusedSimpArgs false
set_option maxHeartbeats 40000000
set_option maxRecDepth 100000
namespace Go.Proofs.YtnhekaepgpbijaaGreatDoor
open Go.Proofs.Tryz Go.RowKit Go.ChangeShapes Go.WideShapes Go.Sort
variable {V w:World} {g:Addr} {P:Program} {Q:Exit->Act->World->Prop} {o:Oper} {a:Act} {K:Act->World->Prop} {F p_:Prop} {v:ByteArray} {r u:Nat}
theorem wW (g:Addr) (k:Nat):(g.add k).off=g.off+k:=by cases k <;> rfl
theorem bu {A:Option Addr} {l:List Fld} (h:ik V A l) {i:Nat} (hi:i<l.length) (o:A=some g):V.cell? ⟨g.block,g.off+i*4+1,none⟩=some (.int .i64 (atF l i).n)/\V.cell? ⟨g.block,g.off+i*4+2,none⟩=some (.string (bs (atF l i).s)):=by
 obtain ⟨j,q,e,_,_,c1,c2,_⟩:=h.at_ i l[i] (Y1 hi);rw [o] at e;cases e
 have p:atF l i=l[i]:=by unfold atF;rw [Y1 hi];rfl
 rw [ax,wW] at c1 c2;rw [p];exact ⟨c1,c2⟩
theorem fO {A:Option Addr} {l:List Fld} (h:ik V A l) (p:0<l.length):∃j,A=some j/\j.block<V.heap.size:=by
 obtain ⟨g,q,e,o,_⟩:=h.at_ 0 l[0] (Y1 p);exact ⟨g,e,o⟩
theorem mM (W:World) (v0 v1:Value):∃g,g=((W.alloc (.cells #[v0,v1] 55)).alloc (.cells #[.bool false,.int .i64 0,.string ⟨#[]⟩,.string ⟨#[]⟩] 82)).alloc (.cells #[.int .i64 0,.string ⟨#[]⟩] 45)/\Below W.heap.size W g/\Blk g W.heap.size 55 #[v0,v1] /\
  Blk g (W.heap.size+1) 82 #[.bool false,.int .i64 0,.string ⟨#[]⟩,.string ⟨#[]⟩]/\Blk g (W.heap.size+2) 45 #[.int .i64 0,.string ⟨#[]⟩] :=
 ⟨_,rfl,Z4,((Blk.new W _ _).alloc _).alloc _,by have:=(bL W (.cells #[v0,v1] 55) 82 #[.bool false,.int .i64 0,.string ⟨#[]⟩,.string ⟨#[]⟩]).alloc (.cells #[.int .i64 0,.string ⟨#[]⟩] 45);exact this,by
  have h:=Blk.new ((W.alloc (.cells #[v0,v1] 55)).alloc (.cells #[.bool false,.int .i64 0,.string ⟨#[]⟩,.string ⟨#[]⟩] 82)) 45 #[.int .i64 0,.string ⟨#[]⟩];have e:((W.alloc (.cells #[v0,v1] 55)).alloc (.cells #[.bool false,.int .i64 0,.string ⟨#[]⟩,.string ⟨#[]⟩] 82)).heap.size=W.heap.size+2:=Z3
  rwa [e] at h⟩
theorem mP {j:Array Oper} {args:Array Value} {f:FuncId} (hw:Region.wanted o (yielded j a.tmps)=true)
  (u:(execOp a.eval o).run P w=.ok (.enter f args) w) {g:Ending->World->Prop} (p:Calls P f args w g) (h:∀e w',g e w'->∃r,e=.returned r/\K (a.put o.dst r) w'):if Region.wanted o (yielded j a.tmps)=true then Oper.wp P o a w K Q else F:=by
 rw [Y6 hw];unfold Oper.wp;rw [u,Oper.upon_enter];refine p.mono fun e w' hp=>?_
 obtain ⟨r,rfl,q⟩:=h e w' hp;exact q
theorem jH {g:Array Oper} (hw:Region.wanted o (yielded g a.tmps)=true) (j:TypeId) (x y:Operand) (q:o.op=.store j x y) (b c:Nat) (cells:Array Value) (u:a.eval x=.pointer (some ⟨b,c,none⟩)) (v:a.eval y=.agg cells)
  (r:w.there b c cells.size) (hi:(prog.info? j).map (·.size)=some cells.size) (p:cells.all (·.oneCell')=true) (h:K (a.put o.dst undef) (w.setCells b c cells.toList)):if Region.wanted o (yielded g a.tmps)=true then Oper.wp prog o a w K Q else F:=by
 rw [Y6 hw];exact wp_store_mid j x y q b c cells u v r hi p h
theorem Uk:(prog.info? 82).map (·.size)=some 4:=Z1
theorem Au:(prog.info? 45).map (·.size)=some 2:=Z1
structure Bg (W:World) (b:Nat) (cv:Array Value) (sid:Option Tm) (s:SvS) (A8:Option Addr) (c8:Nat) (al:List (List UInt8)) (A9:Option Addr) (c9:Nat) (gr:List (List UInt8 × Int)) (lim:Int) (A:Option Addr) (l:List Fld):Prop where
 rs:RSv W b cv (bs (txt sid)) s
 p11:cv[11]?=some (.slice A8 al.length c8)
 p13:cv[13]?=some (.slice A9 gr.length c9)
 p14:cv[14]?=some (.int .i64 lim)
 grc:GrC W A9 gr
 alx:Txs W (.slice A8 al.length c8) al
 fk:∀W',W.grownBy W' (some b)->ik W' A l
 sz:∀i,(atF l i).s.length<=3100
 fine:bD sid
 fl:(s.fl:Int)<lim
 f1:s.fl<=1000
 gl:gr.length<=1000
 al1:al.length<=1000
section
variable {W : World} {b : Nat} {cv : Array Value} {sid : Option Tm} {s : SvS} {A8 A9 : Option Addr} {c8 c9 : Nat} {al : List (List UInt8)} {gr : List (List UInt8 × Int)} {lim : Int} {A : Option Addr} {l : List Fld} {c m : Nat} {num : Int}
theorem zzcc2 (h_:p_:=by
 rintro e w2 ⟨z,is,who,u,a,k,y,rfl,hv,hM2,hG2⟩;have hE:=HB.out.2.1.grown hG2 (fun e=>by have:=Y9 e;omega);have hR:=HB.out.2.2.grown hG2 (fun e=>by have:=Y9 e;omega);have y0:=hE.cell 0;have y1:=hE.cell 1;have y2:=hE.cell 2;have y3:=hE.cell 3;have z0:=hR.cell 0;have z1:=hR.cell 1;have fy0:=hE.frozen 0;have fy1:=hE.frozen 1;have fy2:=hE.frozen 2;have fy3:=hE.frozen 3;have fz0:=hR.frozen 0;have fz1:=hR.frozen 1;simp at y0 y1 y2 y3 z0 z1;have HV:=hide (Y4 hv (Y4 hM2 (aj (ag HB.out.1 (some b)) hG2)));clear hv hM2 hG2;go_wp2_with fail;obtain ⟨q0,q1,q2,q3,q4,q5⟩:=dz hE hR hne (.bool is) (.int .i64 who) (.string u) (.string a) (.int .i64 k) (.string y);unfold dX at q0 q1 q2 q3 q4 q5;refine bodyPost_ret (v:=.tuple #[.string z,.agg #[.bool is,.int .i64 who,.string u,.string a],.agg #[.int .i64 k,.string y]]) (by simp [results,results66,go_sem,q0,q1,q2,q3,q4,q5]) rfl ?_
 exact ⟨z,is,who,u,a,k,y,rfl,HV.out.1,bF HV.out.2.1 (by omega) (by omega),bP HV.out.2.2 (by omega) (by omega)⟩):p_:=h_
theorem UC (h:Bg W b cv sid s A8 c8 al A9 c9 gr lim A l) (J:l.length=m) (I:m=3) :
  Calls prog 66 #[.pointer (some ⟨b,0,none⟩),.agg #[.int .i64 num,.slice A m c]] W (RTk W b cv (bs (txt sid)) (aU (aP lim s))):=by
 obtain ⟨G,r,g,w,j,p⟩:=mM W (.int .i64 num) (.slice A m c);have q:=h.rs.below g;have m1:=w.cell 1;simp only [Jx,Q1,Q2] at m1;have D:=h.rs.blk.lt;have hne:W.heap.size+1≠W.heap.size+2:=Z0;have HB:=hide (Y4 g (Y4 j p));have B:=h.fk G (ag g (some b));have C:=hide (lw q h.p14 h.fl h.f1);generalize F:aU (aP lim s)=o at C;have K:=hide F;clear F;subst I;clear h g w j p q B J;go_enter func66,ntmps66;go_upto_region 1 with fail;rw [<-r];clear r;go_wp2_with fail;refine (C.out).mono ?_;exact zzcc2
theorem UB (h:Bg W b cv sid s A8 c8 al A9 c9 gr lim A l) (hm:l.length=m) (Z:m=6\/m=7) (hp:(atF l 2).s≠fM) :
  Calls prog 66 #[.pointer (some ⟨b,0,none⟩),.agg #[.int .i64 num,.slice A m c]] W (RTk W b cv (bs (txt sid)) (aU (aP lim s))):=by
 obtain ⟨Q,G,p,I,w,D⟩:=mM W (.int .i64 num) (.slice A m c);have F:=h.rs.below p;have m1:=I.cell 1;simp only [Jx,Q1,Q2] at m1;have N:=h.rs.blk.lt;have K:W.heap.size+1≠W.heap.size+2:=Z0;have HB:=hide (Y4 p (Y4 w D));have q:=h.fk Q (ag p (some b));obtain ⟨ad,rfl,aa⟩:=fO q Z0;have L:=hide (lw F h.p14 h.fl h.f1);generalize O:aU (aP lim s)=o at L;have Hq:=hide O;clear O;have f2:=(bu q (i:=2) Z0 rfl).2;simp only [Nat.reduceMul,Nat.add_zero] at f2;have R:((bs (atF l 2).s).toList == ([112,117,98,108,105,99,107,101,121]:List UInt8))=false:=by rw [ay,Y3];exact hp
 generalize bs (atF l 2).s=u2 at f2 R;clear h p I w D F q hp hm;rcases Z with rfl | rfl
 all_goals (
  go_enter func66,ntmps66;go_upto_region 1 with fail;rw [<-G];clear G;go_wp2_with fail;refine (L.out).mono ?_;rintro e w2 ⟨z,is,r,u,a,k,y,rfl,P,B,j⟩;have g:=HB.out.2.1.grown j (fun e=>by have:=Y9 e;omega);have C:=HB.out.2.2.grown j (fun e=>by have:=Y9 e;omega);have y0:=g.cell 0;have y1:=g.cell 1;have y2:=g.cell 2;have y3:=g.cell 3;have z0:=C.cell 0;have z1:=C.cell 1;have S:=g.frozen 0;have T:=g.frozen 1;have U:=g.frozen 2;have V:=g.frozen 3;have X:=C.frozen 0;have Y:=C.frozen 1;simp at y0 y1 y2 y3 z0 z1;have J:=hide (Y4 P (Y4 B (aj (ag HB.out.1 (some b)) j)));clear P B j;go_wp2_with fail;obtain ⟨q0,q1,q2,q3,q4,q5⟩:=dz g C K (.bool is) (.int .i64 r) (.string u) (.string a) (.int .i64 k) (.string y);unfold dX at q0 q1 q2 q3 q4 q5;refine bodyPost_ret (v:=.tuple #[.string z,.agg #[.bool is,.int .i64 r,.string u,.string a],.agg #[.int .i64 k,.string y]]) ZK rfl ?_;exact ⟨z,is,r,u,a,k,y,rfl,J.out.1,bF J.out.2.1 Z0 Z0,bP J.out.2.2 Z0 Z0⟩
 )
theorem Uz (h:Bg W b cv sid s A8 c8 al A9 c9 gr lim A l) (hm:l.length=m) (h6:m=6\/m=7) (hp:(atF l 2).s=fM) (N:(atF l 3).n≠(m:Int) - 6) :
  Calls prog 66 #[.pointer (some ⟨b,0,none⟩),.agg #[.int .i64 num,.slice A m c]] W (RTk W b cv (bs (txt sid)) (aU (bC s [nC] 3))):=by
 obtain ⟨K,I,q,J,B,F⟩:=mM W (.int .i64 num) (.slice A m c);have G:=h.rs.below q;have m1:=J.cell 1;simp only [Jx,Q1,Q2] at m1;have S:=h.rs.blk.lt;have O:W.heap.size+1≠W.heap.size+2:=Z0;have HB:=hide (Y4 q (Y4 B F));have j:=h.fk K (ag q (some b));obtain ⟨ad,rfl,am⟩:=fO j Z0;have P:=hide (fun (V:World) (hb:Below K.heap.size K V)=>show Calls prog 63 #[.pointer (some ⟨b,0,none⟩),.int .i64 3,.string ⟨#[115,105,103,110,101,100,32]⟩] V (RTk K b cv (bs (txt sid)) (aU (bC s [nC] 3))) from (fU (G.below hb) 3 [nC] Z2).mono fun e w' h=>h.base hb);generalize T:aU (bC s [nC] 3)=o at P;have Hq:=hide T;clear T;have f2:=(bu j (i:=2) Z0 rfl).2;simp only [Nat.reduceMul,Nat.add_zero] at f2;have R:=(bu j (i:=3) Z0 rfl).1;simp only [Nat.reduceMul,Nat.add_zero] at R;have X:((bs (atF l 2).s).toList == ([112,117,98,108,105,99,107,101,121]:List UInt8))=true:=YX;have Q:((atF l 3).n == ((m:Nat):Int) - 6)=false:=by rw [Y3];exact N
 have w:((atF l 3).n != ((m:Nat):Int) - 6)=true:=by rw [YG];exact N
 generalize bs (atF l 2).s=u2 at f2 X;generalize (atF l 3).n=n3 at R Q w;clear h q J B F G j hp hm N;rcases h6 with rfl | rfl
 all_goals (
  simp only [show (((6:Nat):Int)) - 6=0 from rfl,show (((7:Nat):Int)) - 6=1 from rfl] at Q w;go_enter func66,ntmps66;go_upto_region 1 with fail;rw [<-I];clear I;go_wp2_with fail;refine (P.out _ Z4).mono ?_;rintro e w2 ⟨z,is,r,u,a,k,y,rfl,U,C,p⟩;have g:=HB.out.2.1.grown p (fun e=>by have:=Y9 e;omega);have D:=HB.out.2.2.grown p (fun e=>by have:=Y9 e;omega);have y0:=g.cell 0;have y1:=g.cell 1;have y2:=g.cell 2;have y3:=g.cell 3;have z0:=D.cell 0;have z1:=D.cell 1;have Y:=g.frozen 0;have Z:=g.frozen 1;have aa:=g.frozen 2;have ab:=g.frozen 3;have ac:=D.frozen 0;have af:=D.frozen 1;simp at y0 y1 y2 y3 z0 z1;have L:=hide (Y4 U (Y4 C (aj (ag HB.out.1 (some b)) p)));clear U C p;go_wp2_with fail;obtain ⟨q0,q1,q2,q3,q4,q5⟩:=dz g D O (.bool is) (.int .i64 r) (.string u) (.string a) (.int .i64 k) (.string y);unfold dX at q0 q1 q2 q3 q4 q5;refine bodyPost_ret (v:=.tuple #[.string z,.agg #[.bool is,.int .i64 r,.string u,.string a],.agg #[.int .i64 k,.string y]]) ZK rfl ?_;exact ⟨z,is,r,u,a,k,y,rfl,L.out.1,bF L.out.2.1 Z0 Z0,bP L.out.2.2 Z0 Z0⟩
 )
theorem zz047 (h_:p_:=by
 obtain ⟨t,ht,hf,_⟩:=mG (s:=(atF l 5).s) (by have:=h.sz 5;omega);rw [ht]
 exact dZ hf):p_:=h_
theorem zz401 (h_:p_:=by
 have h9:=mF (c9:=c9) ((h.grc.below hb0).below hb) ((h.alx.below hb0).below hb) hkf (atF l 0).s (atF l 4).s h.gl h.al1;rw [hhas] at h9
 exact h9.mono fun e w' h8=>⟨h8.1,hb.trans (h8.2.mono hb.size)⟩):p_:=h_
theorem Uf (h:Bg W b cv sid s A8 c8 al A9 c9 gr lim A l) (hm:l.length=m) (h6:m=6\/m=7) (hp:(atF l 2).s=fM) (h3:(atF l 3).n=(m:Int) - 6) (hhas:nM gr al (atF l 0).s (atF l 4).s (ofT (atF l 5).s)=false) :
  Calls prog 66 #[.pointer (some ⟨b,0,none⟩),.agg #[.int .i64 num,.slice A m c]] W (RTk W b cv (bs (txt sid)) (aU (aP lim s))):=by
 obtain ⟨C,U,hb0,X,Q,T⟩:=mM W (.int .i64 num) (.slice A m c);have q:=h.rs.below hb0;have m1:=X.cell 1;simp only [Jx,Q1,Q2] at m1;have am:=h.rs.blk.lt;have af:W.heap.size+1≠W.heap.size+2:=Z0;have HB:=hide (Y4 hb0 (Y4 Q T));have g:=h.fk C (ag hb0 (some b));obtain ⟨D,rfl,ac⟩:=fO g Z0;have HC:=hide (fun (V:World) (hb:Below C.heap.size C V)=>(lw (q.below hb) h.p14 h.fl h.f1).mono fun e w' h9=>h9.base hb);generalize hq:aU (aP lim s)=o at HC;have Hq:=hide hq;clear hq
 have hkf:bD (ofT (atF l 5).s):=by
  exact zz047
 have K:=hide (fun (V:World)=>show Calls prog 113 #[.string (bs (atF l 5).s)] V (fun e w'=>e=.returned (.string (bs (txt (ofT (atF l 5).s))))/\Below V.heap.size V w') from j6 (bs (atF l 5).s) ZV V)
 have j:=hide (fun (V:World) (hb:Below C.heap.size C V)=>show Calls prog 114 #[.slice A9 gr.length c9,.slice A8 al.length c8,.string (bs (atF l 0).s),.string (bs (atF l 4).s),.string (bs (txt (ofT (atF l 5).s)))] V (fun e w'=>e=.returned (.bool false)/\Below C.heap.size C w') from by
  exact zz401)
 have w:=q.at_ h.p11;have B:=q.at_ h.p13;have L:=(bu g (i:=0) Z0 rfl).2;simp only [Nat.reduceMul,Nat.add_zero] at L;have f2:=(bu g (i:=2) Z0 rfl).2;simp only [Nat.reduceMul,Nat.add_zero] at f2;have f3:=(bu g (i:=3) Z0 rfl).1;simp only [Nat.reduceMul,Nat.add_zero] at f3;have N:=(bu g (i:=4) Z0 rfl).2;simp only [Nat.reduceMul,Nat.add_zero] at N;have f5:=(bu g (i:=5) Z0 rfl).2;simp only [Nat.reduceMul,Nat.add_zero] at f5;have e2:((bs (atF l 2).s).toList == ([112,117,98,108,105,99,107,101,121]:List UInt8))=true:=YX;have e3:((atF l 3).n == ((m:Nat):Int) - 6)=true:=Xw;have P:((atF l 3).n != ((m:Nat):Int) - 6)=false:=X3;generalize bs (atF l 2).s=u2 at f2 e2;generalize (atF l 3).n=n3 at f3 e3 P;generalize bs (txt (ofT (atF l 5).s))=kx at K j;generalize bs (atF l 5).s=u5 at f5 K;generalize bs (atF l 0).s=u0 at L j;generalize bs (atF l 4).s=u4 at N j;have aa:=L;have ab:=N;have Y:=w;have Z:=B;have J:D.block<C.heap.size:=ac;have r:b<C.heap.size:=q.blk.lt;clear h hb0 X Q T q g hp hm h3 hkf hhas;rcases h6 with rfl | rfl
 all_goals (
  simp only [show (((6:Nat):Int)) - 6=0 from rfl,show (((7:Nat):Int)) - 6=1 from rfl] at e3 P;go_enter func66,ntmps66;go_upto_region 1 with fail;rw [<-U];clear U;go_upto_region 6 with fail
  go_upto_region 7 with (first
   | (go_at_call 113;refine (K.out _).mono ?_;rintro e w1 ⟨rfl,I⟩)
   | fail)
  have L:=aA I L;have N:=aA I N;have w:=aA I w;have B:=aA I B
  go_region_held3 (fun V=>V.cell? ⟨b,13,none⟩=some (.slice A9 gr.length c9)/\V.cell? ⟨b,11,none⟩=some (.slice A8 al.length c8)/\V.cell? ⟨D.block,D.off+2,none⟩=some (.string u0)/\V.cell? ⟨D.block,D.off+16+2,none⟩=some (.string u4))
   (exact ⟨B,w,L,N⟩)
   (first
    | (go_at_call 114;refine (j.out _ Z4).mono ?_;rintro e w3 ⟨rfl,hb3⟩;replace L:=(hb3.cell (p:=⟨D.block,D.off+2,none⟩) J).trans aa;replace N:=(hb3.cell (p:=⟨D.block,D.off+16+2,none⟩) J).trans ab;replace w:=(hb3.cell (p:=⟨b,11,none⟩) r).trans Y;replace B:=(hb3.cell (p:=⟨b,13,none⟩) r).trans Z)
    | fail)
  go_wp2_with fail;refine (HC.out _ hb3).mono ?_;rintro e w2 ⟨z,is,O,u,a,k,y,rfl,hv,R,G⟩;have F:=HB.out.2.1.grown G (fun e=>by have:=Y9 e;omega);have S:=HB.out.2.2.grown G (fun e=>by have:=Y9 e;omega);have y0:=F.cell 0;have y1:=F.cell 1;have y2:=F.cell 2;have y3:=F.cell 3;have z0:=S.cell 0;have z1:=S.cell 1;have an:=F.frozen 0;have ao:=F.frozen 1;have ap:=F.frozen 2;have aq:=F.frozen 3;have av:=S.frozen 0;have aw:=S.frozen 1;simp at y0 y1 y2 y3 z0 z1;have HV:=hide (Y4 hv (Y4 R (aj (ag HB.out.1 (some b)) G)));clear hv R G;go_wp2_with fail;obtain ⟨q0,q1,q2,q3,q4,q5⟩:=dz F S af (.bool is) (.int .i64 O) (.string u) (.string a) (.int .i64 k) (.string y);unfold dX at q0 q1 q2 q3 q4 q5;refine bodyPost_ret (v:=.tuple #[.string z,.agg #[.bool is,.int .i64 O,.string u,.string a],.agg #[.int .i64 k,.string y]]) ZK rfl ?_;exact ⟨z,is,O,u,a,k,y,rfl,HV.out.1,bF HV.out.2.1 Z0 Z0,bP HV.out.2.2 Z0 Z0⟩
 )
theorem Um (h:Bg W b cv sid s A8 c8 al A9 c9 gr lim A l) (hm:l.length=m) (h7:m=7) (hp:(atF l 2).s=fM) (h3:(atF l 3).n=(m:Int) - 6) (hhas:nM gr al (atF l 0).s (atF l 4).s (ofT (atF l 5).s)=true) (aa:¬ qR sid (atF l 0).s (atF l 1).s (atF l 4).s (ofT (atF l 5).s) (ofT (atF l 6).s)) :
  Calls prog 66 #[.pointer (some ⟨b,0,none⟩),.agg #[.int .i64 num,.slice A m c]] W (RTk W b cv (bs (txt sid)) (aU (aP lim s))):=by
 obtain ⟨O,X,hb0,Y,T,U⟩:=mM W (.int .i64 num) (.slice A m c);have D:=h.rs.below hb0;have m1:=Y.cell 1;simp only [Jx,Q1,Q2] at m1;have aE:=h.rs.blk.lt;have hne:W.heap.size+1≠W.heap.size+2:=Z0;have HB:=hide (Y4 hb0 (Y4 T U));have j:=h.fk O (ag hb0 (some b));obtain ⟨g,rfl,aq⟩:=fO j Z0;have HC:=hide (fun (V:World) (hb:Below O.heap.size O V)=>(lw (D.below hb) h.p14 h.fl h.f1).mono fun e w' h9=>h9.base hb);generalize hq:aU (aP lim s)=o at HC;have Hq:=hide hq;clear hq
 have hkf:bD (ofT (atF l 5).s):=by
  exact zz047
 have R:=hide (fun (V:World)=>show Calls prog 113 #[.string (bs (atF l 5).s)] V (fun e w'=>e=.returned (.string (bs (txt (ofT (atF l 5).s))))/\Below V.heap.size V w') from j6 (bs (atF l 5).s) ZV V)
 have B:=hide (fun (V:World) (hb:Below O.heap.size O V)=>show Calls prog 114 #[.slice A9 gr.length c9,.slice A8 al.length c8,.string (bs (atF l 0).s),.string (bs (atF l 4).s),.string (bs (txt (ofT (atF l 5).s)))] V (fun e w'=>e=.returned (.bool true)/\Below O.heap.size O w') from by
  exact zz401)
 have F:=D.at_ h.p11;have G:=D.at_ h.p13
 have Z:bD (ofT (atF l 6).s):=by
  obtain ⟨t,ht,hf,_⟩:=mG (s:=(atF l 6).s) (by have:=h.sz 6;omega);rw [ht];exact dZ hf
 have K:=hide (fun (V:World)=>show Calls prog 113 #[.string (bs (atF l 6).s)] V (fun e w'=>e=.returned (.string (bs (txt (ofT (atF l 6).s))))/\Below V.heap.size V w') from j6 (bs (atF l 6).s) (by show (atF l 6).s.length<=_;have:=h.sz 6;omega) V);have q:=hide (fun (V:World)=>qD h.fine hkf Z (user:=bs (atF l 0).s) (service:=bs (atF l 1).s) (alg:=bs (atF l 4).s) (by show (atF l 0).s.length<=_;have:=h.sz 0;omega) (by show (atF l 1).s.length<=_;have:=h.sz 1;omega) (by show (atF l 4).s.length<=_;have:=h.sz 4;omega) V);have r:=D.sid_;have av:((pG (iM (ofT (atF l 5).s)=false) (ofT (atF l 6).s=none\/ofT (atF l 6).s≠lU sid (bs (atF l 0).s) (bs (atF l 1).s) (bs (atF l 4).s) (fC (ofT (atF l 5).s)))).toList == ([]:List UInt8))=false:=by rw [Y3];exact fun h9=>aa (o9 (by rw [h9,ByteArray.toList_eq]))
 generalize pG (iM (ofT (atF l 5).s)=false) (ofT (atF l 6).s=none\/ofT (atF l 6).s≠lU sid (bs (atF l 0).s) (bs (atF l 1).s) (bs (atF l 4).s) (fC (ofT (atF l 5).s)))=ck at q av;have I:=(bu j (i:=0) Z0 rfl).2;simp only [Nat.reduceMul,Nat.add_zero] at I;have f2:=(bu j (i:=2) Z0 rfl).2;simp only [Nat.reduceMul,Nat.add_zero] at f2;have f3:=(bu j (i:=3) Z0 rfl).1;simp only [Nat.reduceMul,Nat.add_zero] at f3;have J:=(bu j (i:=4) Z0 rfl).2;simp only [Nat.reduceMul,Nat.add_zero] at J;have f5:=(bu j (i:=5) Z0 rfl).2;simp only [Nat.reduceMul,Nat.add_zero] at f5;have f1:=(bu j (i:=1) Z0 rfl).2;simp only [Nat.reduceMul,Nat.add_zero] at f1;have P:=(bu j (i:=6) Z0 rfl).2;simp only [Nat.reduceMul,Nat.add_zero] at P;have e2:((bs (atF l 2).s).toList == ([112,117,98,108,105,99,107,101,121]:List UInt8))=true:=YX;have e3:((atF l 3).n == ((m:Nat):Int) - 6)=true:=Xw;have S:((atF l 3).n != ((m:Nat):Int) - 6)=false:=X3;generalize bs (atF l 2).s=u2 at f2 e2;generalize (atF l 3).n=n3 at f3 e3 S;generalize bs (txt (ofT (atF l 5).s))=kx at R B q;generalize bs (atF l 5).s=u5 at f5 R;generalize bs (txt (ofT (atF l 6).s))=sx at K q;generalize bs (atF l 6).s=u6 at P K;generalize bs (atF l 0).s=u0 at I B q;generalize bs (atF l 4).s=u4 at J B q;generalize bs (atF l 1).s=u1 at f1 q;generalize bs (txt sid)=aw at r q HC ⊢;have am:=I;have ao:=J;have ab:=F;have ac:=G;have C:g.block<O.heap.size:=aq;have w:b<O.heap.size:=D.blk.lt;have an:=f1;have ap:=P;have af:=r;clear h hb0 Y T U D j hp hm h3 hkf Z hhas aa;subst h7;simp only [show (((7:Nat):Int)) - 6=1 from rfl] at e3 S
 go_enter func66,ntmps66;go_upto_region 1 with fail;rw [<-X];clear X;go_upto_region 6 with fail
 go_upto_region 7 with (first
  | (go_at_call 113;refine (R.out _).mono ?_;rintro e w1 ⟨rfl,Q⟩)
  | fail)
 have I:=aA Q I;have J:=aA Q J;have F:=aA Q F;have G:=aA Q G
 go_region_held3 (fun V=>V.cell? ⟨b,13,none⟩=some (.slice A9 gr.length c9)/\V.cell? ⟨b,11,none⟩=some (.slice A8 al.length c8)/\V.cell? ⟨g.block,g.off+2,none⟩=some (.string u0)/\V.cell? ⟨g.block,g.off+16+2,none⟩=some (.string u4))
  (exact ⟨G,F,I,J⟩)
  (first
   | (go_at_call 114;refine (B.out _ Z4).mono ?_;rintro e w3 ⟨rfl,hb3⟩;replace I:=(hb3.cell (p:=⟨g.block,g.off+2,none⟩) C).trans am;replace J:=(hb3.cell (p:=⟨g.block,g.off+16+2,none⟩) C).trans ao;replace F:=(hb3.cell (p:=⟨b,11,none⟩) w).trans ab;replace G:=(hb3.cell (p:=⟨b,13,none⟩) w).trans ac)
   | fail)
 have L:=hb3;have f1:=(L.cell (p:=⟨g.block,g.off+4+2,none⟩) C).trans an;have P:=(L.cell (p:=⟨g.block,g.off+24+2,none⟩) C).trans ap;have r:=(L.cell (p:=⟨b,23,none⟩) w).trans af;clear F G;go_upto_region 14 with fail
 go_region_held3 (fun V=>V.cell? ⟨b,23,none⟩=some (.string aw)/\V.cell? ⟨g.block,g.off+2,none⟩=some (.string u0)/\V.cell? ⟨g.block,g.off+4+2,none⟩=some (.string u1)/\V.cell? ⟨g.block,g.off+16+2,none⟩=some (.string u4)/\V.cell? ⟨g.block,g.off+24+2,none⟩=some (.string u6))
  (exact ⟨r,I,f1,J,P⟩)
  (first
   | (go_at_call 113;refine (K.out _).mono ?_;rintro e w5 ⟨rfl,hb5⟩;replace r:=aA hb5 r;replace I:=aA hb5 I;replace f1:=aA hb5 f1;replace J:=aA hb5 J;replace P:=aA hb5 P)
   | (go_at_call 115;refine (q.out _).mono ?_;rintro e w6 ⟨rfl,N⟩;replace r:=aA N r;replace I:=aA N I;replace f1:=aA N f1;replace J:=aA N J;replace P:=aA N P)
   | fail)
 go_wp2_with fail;refine (HC.out _ Z4).mono ?_;exact zzcc2
end
theorem lS {g:Array Oper} {w':World} {v:Value} (hw:Region.wanted o (yielded g a.tmps)=true)
  (j:(execOp a.eval o).run P w=.ok (.value v) w') (h:K (a.put o.dst v) w'):if Region.wanted o (yielded g a.tmps)=true then Oper.wp P o a w K Q else F:=by
 rw [Y6 hw];unfold Oper.wp;rw [j];exact h
def Cc (ad:Addr) (u4 u5:ByteArray) (L4 L5:Option Addr) (d4 d5:Nat) (V:World):Prop:=V.cell? ⟨ad.block,ad.off+16,none⟩=some (.int .u8 115)/\V.cell? ⟨ad.block,ad.off+16+1,none⟩=some (.int .i64 0)/\V.cell? ⟨ad.block,ad.off+16+2,none⟩=some (.string u4)/\V.cell? ⟨ad.block,ad.off+16+3,none⟩=some (.slice L4 0 d4)/\V.cell? ⟨ad.block,ad.off+20,none⟩=some (.int .u8 116)/\V.cell? ⟨ad.block,ad.off+20+1,none⟩=some (.int .i64 0)/\V.cell? ⟨ad.block,ad.off+20+2,none⟩=some (.string u5)/\V.cell? ⟨ad.block,ad.off+20+3,none⟩=some (.slice L5 0 d5)
theorem Cc.below {q:Addr} {w:ByteArray} {j o:Option Addr} {p:World} (h:Cc q v w j o r u V) (g:Below V.heap.size V p):Cc q v w j o r u p:=by
 obtain ⟨z,B,C,D,F,G,I,J⟩:=h;exact ⟨aA g z,aA g B,aA g C,aA g D,aA g F,aA g G,aA g I,aA g J⟩
theorem Cc.far {j:Addr} {w:ByteArray} {p q:Option Addr} (h:Cc j v w p q r u V) {b:Nat} (hb:j.block≠b) (g:List Value) (o:Nat):Cc j v w p q r u (V.setCells b o g):=by
 obtain ⟨z,B,C,D,F,G,I,J⟩:=h;exact ⟨(bH XB g o V).trans z,(bH XB g o V).trans B,(bH XB g o V).trans C,(bH XB g o V).trans D,(bH XB g o V).trans F,(bH XB g o V).trans G,(bH XB g o V).trans I,(bH XB g o V).trans J⟩
theorem szq {x:Fld} (h:x.s.length<=100000) (g:x.l=[]):SzF x:=⟨h,by rw [g];exact Yb _,fun y j=>by rw [g] at j;cases j⟩
def Wn (W0:World) (zq:ByteArray) (kq:Int) (yq:ByteArray) (v9 v10:Value) (wx:World):Prop :=
 ∃br,v9=.string zq/\v10=.pointer (some ⟨br,0,none⟩)/\Below W0.heap.size W0 wx/\W0.heap.size<=br/\Blk wx br 45 #[.int .i64 kq,.string yq]
theorem QS (s:SvS) {l:List Fld} (sz:∀i,(atF l i).s.length<=3100):∃w q v,(∀V g,ik V (some g) [⟨115,0,(atF l 4).s,[]⟩,⟨116,0,(atF l 5).s,[]⟩]->Calls prog 28 #[.agg #[.int .i64 60,.slice (some g) 2 2]] V (fun e w'=>e=.returned (.tuple #[.string w,.agg #[.int .i64 q,.string v]])/\Below V.heap.size V w')) /\
  ((q=0/\∃o,w=bs o/\aU (gF s l)=(s,⟨o,none,none⟩))\/(q≠0/\∃ps,v=bs (atL ps)/\(atL ps).length<=1000000/\aU (gF s l)=aU (bC s ps q))):=by
 have key:∀V g,ik V (some g) [⟨115,0,(atF l 4).s,[]⟩,⟨116,0,(atF l 5).s,[]⟩]->Calls prog 28 #[.agg #[.int .i64 60,.slice (some g) 2 2]] V (TG 60 [⟨115,0,(atF l 4).s,[]⟩,⟨116,0,(atF l 5).s,[]⟩] V):=fun V g hF=>zQ 60 (c:=2) hF (by
  intro x u;rw [Yz,Ym] at u;rcases u with rfl | rfl
  ·exact szq (by have:=sz 4;show (atF l 4).s.length<=_;omega) rfl
  ·exact szq (by have:=sz 5;show (atF l 5).s.length<=_;omega) rfl) Z3
 cases he:ic 60 (encS 60 [⟨115,0,(atF l 4).s,[]⟩,⟨116,0,(atF l 5).s,[]⟩]) with
 | none =>
  cases h:encS 60 [⟨115,0,(atF l 4).s,[]⟩,⟨116,0,(atF l 5).s,[]⟩] with
  | ok o =>
   refine ⟨bs o,0,⟨#[]⟩,fun V g hF=>(key V g hF).mono fun e w' h9=>?_,.inl ⟨rfl,o,rfl,by unfold gF;rw [h];rfl⟩⟩;obtain ⟨j,⟨C,h8,rfl⟩ | ⟨r,B,h8,z,rfl⟩⟩:=h9
   ·rw [h] at h8
    cases h8
    exact ⟨rfl,j⟩
   ·rw [he] at h8
    cases h8
  | none=>rw [h] at he;cases he
  | long=>rw [h] at he;cases he
  | bad e i=>rw [h] at he;cases he
 | some x =>
  obtain ⟨ps,k⟩:=x;have p:=rY he;refine ⟨⟨#[]⟩,(k:Nat),bs (atL ps),fun V g hF=>(key V g hF).mono fun e w' h9=>?_,.inr ⟨by have:=zk he;omega,ps,rfl,Yg (uL p.2) (by have:=p.1;omega),?_⟩⟩
  ·obtain ⟨j,⟨C,h8,rfl⟩ | ⟨r,B,h8,z,rfl⟩⟩:=h9
   ·rw [h8] at he
    cases he
   ·rw [he] at h8
    cases h8
    exact ⟨rfl,j⟩
  ·unfold gF
   cases h:encS 60 [⟨115,0,(atF l 4).s,[]⟩,⟨116,0,(atF l 5).s,[]⟩] with
   | ok o=>rw [h] at he;cases he
   | none=>rw [h] at he;simp only [he]
   | long=>rw [h] at he;simp only [he]
   | bad e i=>rw [h] at he;simp only [he]
theorem Q6 {l:List Fld} (h:ik V (some g) l) (P:l.length=6) (G:atF l 4=⟨115,0,(atF l 4).s,[]⟩) (I:atF l 5=⟨116,0,(atF l 5).s,[]⟩):∃j o v w,Cc g (bs (atF l 4).s) (bs (atF l 5).s) j o v w V/\Txc V (.slice j 0 v) []/\Txc V (.slice o 0 w) []:=by
 have z:l[4]?=some (atF l 4):=by unfold atF;rw [Y1 Z0];rfl
 have B:l[5]?=some (atF l 5):=by unfold atF;rw [Y1 Z0];rfl
 rw [G] at z;rw [I] at B;obtain ⟨N,Q,q4,_,c0,c1,c2,c3,C,_⟩:=h.at_ 4 _ z;obtain ⟨O,R,L,_,F,q,r,u,D,_⟩:=h.at_ 5 _ B;cases q4
 cases L
 obtain ⟨j,n4,rfl,_⟩:=C.2;obtain ⟨o,n5,rfl,_⟩:=D.2;simp only [ax,wW,Nat.reduceMul] at c1 c2 c3 q r u
 have J:V.cell? ⟨g.block,g.off+16,none⟩=some (.int .u8 ((115:Nat):Int)):=by
  have h9:=c0;have p:g.add (4*4)=⟨g.block,g.off+16,none⟩:=rfl;rwa [p] at h9
 have K:V.cell? ⟨g.block,g.off+20,none⟩=some (.int .u8 ((116:Nat):Int)):=by
  have h9:=F;have p:g.add (5*4)=⟨g.block,g.off+20,none⟩:=rfl;rwa [p] at h9
 exact ⟨j,o,n4,n5,⟨J,c1,c2,c3,K,q,r,u⟩,C,D⟩
section
variable {W : World} {b : Nat} {cv : Array Value} {sid : Option Tm} {s : SvS} {A8 A9 : Option Addr} {c8 c9 : Nat} {al : List (List UInt8)} {gr : List (List UInt8 × Int)} {lim : Int} {A : Option Addr} {l : List Fld} {c m : Nat} {num : Int}
theorem zz1fc (h_:p_:=by
 have h9:=Blk.setCells #[.int .i64 kq,.string yq].toList 0 hXe
 rwa [oC (by rfl),YN] at h9):p_:=h_
theorem zz245 (h_:p_:=by
 refine hK.out _ _ hSf (fun _=>?_);clear hK K
 try simp only [Act.put,J0,JT,Y0]
 refine cB (by kernel_rfl) ?_ _;clear hSf hSd hXe;go_wp2_with fail;go_meet
 exact ⟨_,rfl,rfl,hbf,hle,hXf⟩):p_:=h_
theorem UD (h:Bg W b cv sid s A8 c8 al A9 c9 gr lim A l) (hm:l.length=m) (h6:m=6) (hp:(atF l 2).s=fM) (h3:(atF l 3).n=(m:Int) - 6) (hhas:nM gr al (atF l 0).s (atF l 4).s (ofT (atF l 5).s)=true) (h4:atF l 4=⟨115,0,(atF l 4).s,[]⟩) (h5:atF l 5=⟨116,0,(atF l 5).s,[]⟩) :
  Calls prog 66 #[.pointer (some ⟨b,0,none⟩),.agg #[.int .i64 num,.slice A m c]] W (RTk W b cv (bs (txt sid)) (aU (gF s l))):=by
 obtain ⟨r,ba,hb0,bb,a8,a9⟩:=mM W (.int .i64 num) (.slice A m c);have T:=h.rs.below hb0;have m1:=bb.cell 1;simp only [Jx,Q1,Q2] at m1;have b4:=h.rs.blk.lt;have hne:W.heap.size+1≠W.heap.size+2:=Z0;have HB:=hide (Y4 hb0 (Y4 a8 a9));have Q:=h.fk r (ag hb0 (some b));obtain ⟨J,rfl,bt⟩:=fO Q Z0
 have hkf:bD (ofT (atF l 5).s):=by
  exact zz047
 have aq:=hide (fun (V:World)=>show Calls prog 113 #[.string (bs (atF l 5).s)] V (fun e w'=>e=.returned (.string (bs (txt (ofT (atF l 5).s))))/\Below V.heap.size V w') from j6 (bs (atF l 5).s) ZV V)
 have I:=hide (fun (V:World) (hb:Below r.heap.size r V)=>show Calls prog 114 #[.slice A9 gr.length c9,.slice A8 al.length c8,.string (bs (atF l 0).s),.string (bs (atF l 4).s),.string (bs (txt (ofT (atF l 5).s)))] V (fun e w'=>e=.returned (.bool true)/\Below r.heap.size r w') from by
  exact zz401)
 have X:=T.at_ h.p11;have Y:=T.at_ h.p13;have bm:=hide (fun (V:World)=>dH V);have bl:=hide h.fk;have bn:=hide T
 have b3:J.block<W.heap.size:=by
  obtain ⟨b5,e9,h9⟩:=fO (h.fk W (az W _)) Z0;cases e9
  exact h9
 obtain ⟨Z,kq,yq,bd,ao⟩:=QS s (l:=l) h.sz;have a0:=hide bd
 have ao:(kq=0/\∃bq,Z=bs bq/\aU (gF s l)=(s,⟨bq,none,none⟩))\/kq≠0/\∀V,Below r.heap.size r V->Calls prog 63 #[.pointer (some ⟨b,0,none⟩),.int .i64 kq,.string yq] V (RTk r b cv (bs (txt sid)) (aU (gF s l))):=by
  rcases ao with h9 | ⟨h9,ps,hy,bx,ho⟩
  ·exact .inl h9
  ·refine .inr ⟨h9,fun V hb=>?_⟩
   rw [ho,hy];exact (fU (T.below hb) kq ps bx).mono fun e w' h=>h.base hb
 generalize aU (gF s l)=o at ao ⊢;have f0:=(bu Q (i:=0) Z0 rfl).2;simp only [Nat.reduceMul,Nat.add_zero] at f0;have f2:=(bu Q (i:=2) Z0 rfl).2;simp only [Nat.reduceMul,Nat.add_zero] at f2;have f3:=(bu Q (i:=3) Z0 rfl).1;simp only [Nat.reduceMul,Nat.add_zero] at f3;have f4:=(bu Q (i:=4) Z0 rfl).2;simp only [Nat.reduceMul,Nat.add_zero] at f4;have f5:=(bu Q (i:=5) Z0 rfl).2;simp only [Nat.reduceMul,Nat.add_zero] at f5;have e2:((bs (atF l 2).s).toList == ([112,117,98,108,105,99,107,101,121]:List UInt8))=true:=YX;have e3:((atF l 3).n == ((m:Nat):Int) - 6)=true:=Xw;have a3:((atF l 3).n != ((m:Nat):Int) - 6)=false:=X3;generalize bs (atF l 2).s=u2 at f2 e2;generalize (atF l 3).n=n3 at f3 e3 a3;generalize bs (txt (ofT (atF l 5).s))=kx at aq I;generalize bs (atF l 5).s=u5 at f5 aq;generalize bs (atF l 0).s=u0 at f0 I;generalize bh:bs (atF l 4).s=u4 at f4 I;have a5:=hide bh;have a6:=f0;have a7:=f4;have aE:=X;have aF:=Y;have aw:J.block<r.heap.size:=bt;have an:b<r.heap.size:=T.blk.lt;have Hm:=hide (Y4 hm (Y4 h4 h5));have bp:=hide ao;clear h hb0 bb a8 a9 T Q hp hm h3 hkf hhas bh h4 h5 bd ao;subst h6;simp only [show (((6:Nat):Int)) - 6=0 from rfl] at e3 a3;go_enter func66,ntmps66;go_upto_region 1 with fail;rw [<-ba];clear ba;go_upto_region 6 with fail
 go_upto_region 7 with (first
  | (go_at_call 113;refine (aq.out _).mono ?_;rintro e w1 ⟨rfl,av⟩)
  | fail)
 have f0:=aA av f0;have f4:=aA av f4;have X:=aA av X;have Y:=aA av Y
 go_region_held3 (fun V=>V.cell? ⟨b,13,none⟩=some (.slice A9 gr.length c9)/\V.cell? ⟨b,11,none⟩=some (.slice A8 al.length c8)/\V.cell? ⟨J.block,J.off+2,none⟩=some (.string u0)/\V.cell? ⟨J.block,J.off+16+2,none⟩=some (.string u4))
  (exact ⟨Y,X,f0,f4⟩)
  (first
   | (go_at_call 114;refine (I.out _ Z4).mono ?_;rintro e w3 ⟨rfl,hb3⟩;replace f0:=(hb3.cell (p:=⟨J.block,J.off+2,none⟩) aw).trans a6;replace f4:=(hb3.cell (p:=⟨J.block,J.off+16+2,none⟩) aw).trans a7;replace X:=(hb3.cell (p:=⟨b,11,none⟩) an).trans aE;replace Y:=(hb3.cell (p:=⟨b,13,none⟩) an).trans aF)
   | fail)
 have bo:=hide hb3;obtain ⟨L4,L5,d4,d5,ab,be,bg⟩:=Q6 (bl.out w3 (ag (HB.out.1.trans (hb3.mono HB.out.1.size)) (some b))) Hm.out.1 Hm.out.2.1 Hm.out.2.2;have P:=hide (fun (V:World) (hb:Below w3.heap.size w3 V)=>Y4 (be.below hb) (bg.below hb));rw [a5.out] at ab;generalize bj:bs (atF l 5).s=v5 at ab;have Hu:=hide (Y4 a5.out bj);clear be bg bj f0 f4 X Y a6 a7 aE aF f2 f3 f5 e2 e3 a3 aq I;go_upto_region 10 with fail;go_cut [9,10] (fun v9 b0 wx=>Wn r Z kq yq v9 b0 wx)
 case first =>
  refine fJ (Cc J u4 v5 L4 L5 d4 d5) (fun i=>decide (i<14)) Z1 ?_
  obtain ⟨j,ap⟩:∃Wd,Wd=w3.drew:=⟨_,rfl⟩
  have bw:Below w3.heap.size w3 j:=by rw [ap];exact (Below.refl _ _).drew
  have hSd:=ab.below bw;rw [<-ap];clear ap ab;refine ak (i:=0) (oi:=?_) (v:=.slice (some J) 6 c) ?_ ?_ ?_ ?_ ?_ ?_ ?_ hSd ?_;rotate_left 1
  ·(first | (simp only [Jx,Q2,Q1];exact rfl) | exact rfl)
  ·kernel_rfl
  ·kernel_rfl
  ·kernel_rfl
  ·kernel_rfl
  ·exact fun _ _ _ h=>h
  ·refine Or.inl ⟨Z5,fun w g=>?_⟩
   clear g;go_simp
  try simp only [Act.put,J0,JT,Y0]
  refine ak (i:=1) (oi:=?_) (v:=.pointer (some ⟨J.block,J.off+16,none⟩)) ?_ ?_ ?_ ?_ ?_ ?_ ?_ hSd ?_;rotate_left 1
  ·(first | (simp only [Jx,Q2,Q1];exact rfl) | exact rfl)
  ·kernel_rfl
  ·kernel_rfl
  ·kernel_rfl
  ·kernel_rfl
  ·exact fun _ _ _ h=>h
  ·refine Or.inl ⟨Z5,fun w g=>?_⟩
   clear g;go_simp
  try simp only [Act.put,J0,JT,Y0]
  refine ak (i:=2) (oi:=?_) (v:=.agg #[.int .u8 115,.int .i64 0,.string u4,.slice L4 0 d4]) ?_ ?_ ?_ ?_ ?_ ?_ ?_ hSd ?_;rotate_left 1
  ·(first | (simp only [Jx,Q2,Q1];exact rfl) | exact rfl)
  ·kernel_rfl
  ·kernel_rfl
  ·kernel_rfl
  ·kernel_rfl
  ·exact fun _ _ _ h=>h
  ·refine Or.inl ⟨Z5,fun w g=>?_⟩
   have a4:=g;obtain ⟨g0,g1,g2,g3,g4,g5,g6,g7⟩:=a4;clear g;go_simp
  try simp only [Act.put,J0,JT,Y0]
  refine ak (i:=3) (oi:=?_) (v:=.slice (some J) 6 c) ?_ ?_ ?_ ?_ ?_ ?_ ?_ hSd ?_;rotate_left 1
  ·(first | (simp only [Jx,Q2,Q1];exact rfl) | exact rfl)
  ·kernel_rfl
  ·kernel_rfl
  ·kernel_rfl
  ·kernel_rfl
  ·exact fun _ _ _ h=>h
  ·refine Or.inl ⟨Z5,fun w g=>?_⟩
   clear g;go_simp
  try simp only [Act.put,J0,JT,Y0]
  refine ak (i:=4) (oi:=?_) (v:=.pointer (some ⟨J.block,J.off+20,none⟩)) ?_ ?_ ?_ ?_ ?_ ?_ ?_ hSd ?_;rotate_left 1
  ·(first | (simp only [Jx,Q2,Q1];exact rfl) | exact rfl)
  ·kernel_rfl
  ·kernel_rfl
  ·kernel_rfl
  ·kernel_rfl
  ·exact fun _ _ _ h=>h
  ·refine Or.inl ⟨Z5,fun w g=>?_⟩
   clear g;go_simp
  try simp only [Act.put,J0,JT,Y0]
  refine ak (i:=5) (oi:=?_) (v:=.agg #[.int .u8 116,.int .i64 0,.string v5,.slice L5 0 d5]) ?_ ?_ ?_ ?_ ?_ ?_ ?_ hSd ?_;rotate_left 1
  ·(first | (simp only [Jx,Q2,Q1];exact rfl) | exact rfl)
  ·kernel_rfl
  ·kernel_rfl
  ·kernel_rfl
  ·kernel_rfl
  ·exact fun _ _ _ h=>h
  ·refine Or.inl ⟨Z5,fun w g=>?_⟩
   have a4:=g;obtain ⟨g0,g1,g2,g3,g4,g5,g6,g7⟩:=a4;clear g;go_simp
  try simp only [Act.put,J0,JT,Y0]
  refine au (rs:=[6,12]) Z1 Z3 ?_;refine ai.cons (o:=?_) ?_ (fun K hK=>?_) ?_;rotate_left 1
  ·(first | (simp only [Jx,Q2,Q1];exact rfl) | exact rfl)
  ·obtain ⟨wB,G⟩:∃W9,W9=j.alloc (.cells #[.int .u8 115,.int .i64 0,.string u4,.slice L4 0 d4,.int .u8 116,.int .i64 0,.string v5,.slice L5 0 d5] 60):=⟨_,rfl⟩
   have ac:Below j.heap.size j wB:=by rw [G];exact eY _
   have N:Blk wB j.heap.size 60 #[.int .u8 115,.int .i64 0,.string u4,.slice L4 0 d4,.int .u8 116,.int .i64 0,.string v5,.slice L5 0 d5]:=by rw [G];exact Blk.new j _ _
   refine lS (v:=.slice (some ⟨j.heap.size,0,none⟩) 2 2) (w':=wB) Z5 (by rw [G];first | rfl | go_simp) ?_;clear G;have R:=hSd.below ac;refine hK.out _ _ R (fun _=>?_);clear hK K
   try simp only [Act.put,J0,JT,Y0]
   refine ak (i:=7) (oi:=?_) (v:=.agg #[.int .i64 60,.slice (some ⟨j.heap.size,0,none⟩) 2 2]) ?_ ?_ ?_ ?_ ?_ ?_ ?_ R ?_;rotate_left 1
   ·(first | (simp only [Jx,Q2,Q1];exact rfl) | exact rfl)
   ·kernel_rfl
   ·kernel_rfl
   ·kernel_rfl
   ·kernel_rfl
   ·exact fun _ _ _ h=>h
   ·refine Or.inl ⟨Z5,fun w g=>?_⟩
    clear g;go_simp
   try simp only [Act.put,J0,JT,Y0]
   refine au (rs:=[8,12]) Z1 Z3 ?_;refine ai.cons (o:=?_) ?_ (fun K hK=>?_) ?_;rotate_left 1
   ·(first | (simp only [Jx,Q2,Q1];exact rfl) | exact rfl)
   ·have aa:ik wB (some ⟨j.heap.size,0,none⟩) [⟨115,0,(atF l 4).s,[]⟩,⟨116,0,(atF l 5).s,[]⟩]:=by
     rw [<-Hu.out.1,<- Hu.out.2] at N;exact nO (s:=(atF l 4).s) (s':=(atF l 5).s) (L:=[]) (L':=[]) N (P.out _ Z4).1 (P.out _ Z4).2 Z2 Z2
    refine mP (f:=28) Z5 Za (a0.out _ _ aa) ?_;rintro e D ⟨rfl,S⟩;refine ⟨_,rfl,?_⟩;have B:=R.below S;refine hK.out _ _ B (fun _=>?_);clear hK K
    try simp only [Act.put,J0,JT,Y0]
    refine ak (i:=9) (oi:=?_) (v:=.tuple #[.string Z,.agg #[.int .i64 kq,.string yq]]) ?_ ?_ ?_ ?_ ?_ ?_ ?_ B ?_;rotate_left 1
    ·(first | (simp only [Jx,Q2,Q1];exact rfl) | exact rfl)
    ·kernel_rfl
    ·kernel_rfl
    ·kernel_rfl
    ·kernel_rfl
    ·exact fun _ _ _ h=>h
    ·refine Or.inl ⟨Z5,fun w g=>?_⟩
     clear g;go_simp
    try simp only [Act.put,J0,JT,Y0]
    refine ak (i:=10) (oi:=?_) (v:=.string Z) ?_ ?_ ?_ ?_ ?_ ?_ ?_ B ?_;rotate_left 1
    ·(first | (simp only [Jx,Q2,Q1];exact rfl) | exact rfl)
    ·kernel_rfl
    ·kernel_rfl
    ·kernel_rfl
    ·kernel_rfl
    ·exact fun _ _ _ h=>h
    ·refine Or.inl ⟨Z5,fun w g=>?_⟩
     clear g;go_simp
    try simp only [Act.put,J0,JT,Y0]
    refine ak (i:=11) (oi:=?_) (v:=.agg #[.int .i64 kq,.string yq]) ?_ ?_ ?_ ?_ ?_ ?_ ?_ B ?_;rotate_left 1
    ·(first | (simp only [Jx,Q2,Q1];exact rfl) | exact rfl)
    ·kernel_rfl
    ·kernel_rfl
    ·kernel_rfl
    ·kernel_rfl
    ·exact fun _ _ _ h=>h
    ·refine Or.inl ⟨Z5,fun w g=>?_⟩
     clear g;go_simp
    try simp only [Act.put,J0,JT,Y0]
    refine au (rs:=[12]) Z1 Z3 ?_;refine ai.cons (o:=?_) ?_ (fun K hK=>?_) ai.nil;rotate_left 1
    ·(first | (simp only [Jx,Q2,Q1];exact rfl) | exact rfl)
    obtain ⟨C,hwA⟩:∃W9,W9=D.alloc (.cells #[.int .i64 0,.string ⟨#[]⟩] 45):=⟨_,rfl⟩
    have U:Below D.heap.size D C:=by rw [hwA];exact eY _
    have F:Blk C D.heap.size 45 #[.int .i64 0,.string ⟨#[]⟩]:=by rw [hwA];exact Blk.new D _ _
    refine lS (v:=.pointer (some ⟨D.heap.size,0,none⟩)) (w':=C) Z5 Xz ?_;clear hwA;have q:=B.below U;refine hK.out _ _ q (fun _=>?_);clear hK K
    try simp only [Act.put,J0,JT,Y0]
    refine ak (i:=13) (oi:=?_) (v:=.string Z) ?_ ?_ ?_ ?_ ?_ ?_ ?_ q ?_;rotate_left 1
    ·(first | (simp only [Jx,Q2,Q1];exact rfl) | exact rfl)
    ·kernel_rfl
    ·kernel_rfl
    ·kernel_rfl
    ·kernel_rfl
    ·exact fun _ _ _ h=>h
    ·refine Or.inl ⟨Z5,fun w g=>?_⟩
     clear g;go_simp
    try simp only [Act.put,J0,JT,Y0]
    have hXe:=F;have O:Below r.heap.size r C:=Z4
    have hle:r.heap.size<=D.heap.size:=by
     have h9:Below r.heap.size r D:=Z4;exact h9.size
    refine au (rs:=[14]) Z1 Z3 ?_;refine ai.cons (o:=?_) ?_ (fun K hK=>?_) ai.nil;rotate_left 1
    ·(first | (simp only [Jx,Q2,Q1];exact rfl) | exact rfl)
    refine jH Z5 45 (.tmp 10) (.tmp 88) rfl D.heap.size 0 #[.int .i64 kq,.string yq] Z5 Z5 (ko hXe Z3) Au Zd ?_
    have hXf:Blk (C.setCells D.heap.size 0 #[.int .i64 kq,.string yq].toList) D.heap.size 45 #[.int .i64 kq,.string yq]:=by
     exact zz1fc
    have hbf:Below r.heap.size r (C.setCells D.heap.size 0 #[.int .i64 kq,.string yq].toList):=below_setCells hle _ _ O;have hSf:=q.far (b:=D.heap.size) Z0 #[.int .i64 kq,.string yq].toList 0;refine hK.out _ _ hSf (fun _=>?_);clear hK K
    try simp only [Act.put,J0,JT,Y0]
    refine cB Z1 ?_ _;clear hSf hSd hXe;go_wp2_with fail;go_meet;exact ⟨_,rfl,rfl,hbf,hle,hXf⟩
   ·refine ai.cons (o:=?_) ?_ (fun K hK=>?_) ai.nil
    rotate_left 1
    ·(first | (simp only [Jx,Q2,Q1];exact rfl) | exact rfl)
    obtain ⟨C,hwA⟩:∃W9,W9=wB.alloc (.cells #[.int .i64 0,.string ⟨#[]⟩] 45):=⟨_,rfl⟩
    have U:Below wB.heap.size wB C:=by rw [hwA];exact eY _
    have F:Blk C wB.heap.size 45 #[.int .i64 0,.string ⟨#[]⟩]:=by rw [hwA];exact Blk.new wB _ _
    refine lS (v:=.pointer (some ⟨wB.heap.size,0,none⟩)) (w':=C) Z5 Xz ?_;clear hwA;have B:=R.below U;refine hK.out _ _ B (fun _=>?_);clear hK K
    try simp only [Act.put,J0,JT,Y0]
    refine au (rs:=[8]) Z1 Z3 ?_;refine ai.cons (o:=?_) ?_ (fun K hK=>?_) ai.nil;rotate_left 1
    ·(first | (simp only [Jx,Q2,Q1];exact rfl) | exact rfl)
    have aa:ik C (some ⟨j.heap.size,0,none⟩) [⟨115,0,(atF l 4).s,[]⟩,⟨116,0,(atF l 5).s,[]⟩]:=by
     rw [<-Hu.out.1,<- Hu.out.2] at N;exact nO (s:=(atF l 4).s) (s':=(atF l 5).s) (L:=[]) (L':=[]) (Blk.below N U N.lt) (P.out _ Z4).1 (P.out _ Z4).2 Z2 Z2
    refine mP (f:=28) Z5 Za (a0.out _ _ aa) ?_;rintro e D ⟨rfl,S⟩;refine ⟨_,rfl,?_⟩;have q:=B.below S;refine hK.out _ _ q (fun _=>?_);clear hK K
    try simp only [Act.put,J0,JT,Y0]
    refine ak (i:=9) (oi:=?_) (v:=.tuple #[.string Z,.agg #[.int .i64 kq,.string yq]]) ?_ ?_ ?_ ?_ ?_ ?_ ?_ q ?_;rotate_left 1
    ·(first | (simp only [Jx,Q2,Q1];exact rfl) | exact rfl)
    ·kernel_rfl
    ·kernel_rfl
    ·kernel_rfl
    ·kernel_rfl
    ·exact fun _ _ _ h=>h
    ·refine Or.inl ⟨Z5,fun w g=>?_⟩
     clear g;go_simp
    try simp only [Act.put,J0,JT,Y0]
    refine ak (i:=10) (oi:=?_) (v:=.string Z) ?_ ?_ ?_ ?_ ?_ ?_ ?_ q ?_;rotate_left 1
    ·(first | (simp only [Jx,Q2,Q1];exact rfl) | exact rfl)
    ·kernel_rfl
    ·kernel_rfl
    ·kernel_rfl
    ·kernel_rfl
    ·exact fun _ _ _ h=>h
    ·refine Or.inl ⟨Z5,fun w g=>?_⟩
     clear g;go_simp
    try simp only [Act.put,J0,JT,Y0]
    refine ak (i:=11) (oi:=?_) (v:=.agg #[.int .i64 kq,.string yq]) ?_ ?_ ?_ ?_ ?_ ?_ ?_ q ?_;rotate_left 1
    ·(first | (simp only [Jx,Q2,Q1];exact rfl) | exact rfl)
    ·kernel_rfl
    ·kernel_rfl
    ·kernel_rfl
    ·kernel_rfl
    ·exact fun _ _ _ h=>h
    ·refine Or.inl ⟨Z5,fun w g=>?_⟩
     clear g;go_simp
    try simp only [Act.put,J0,JT,Y0]
    refine ak (i:=13) (oi:=?_) (v:=.string Z) ?_ ?_ ?_ ?_ ?_ ?_ ?_ q ?_;rotate_left 1
    ·(first | (simp only [Jx,Q2,Q1];exact rfl) | exact rfl)
    ·kernel_rfl
    ·kernel_rfl
    ·kernel_rfl
    ·kernel_rfl
    ·exact fun _ _ _ h=>h
    ·refine Or.inl ⟨Z5,fun w g=>?_⟩
     clear g;go_simp
    try simp only [Act.put,J0,JT,Y0]
    have hXe:=(F.below S F.lt)
    have O:Below r.heap.size r D:=Z4
    have hle:r.heap.size<=wB.heap.size:=by
     have h9:Below r.heap.size r wB:=Z4;exact h9.size
    refine au (rs:=[14]) Z1 Z3 ?_;refine ai.cons (o:=?_) ?_ (fun K hK=>?_) ai.nil;rotate_left 1
    ·(first | (simp only [Jx,Q2,Q1];exact rfl) | exact rfl)
    refine jH Z5 45 (.tmp 10) (.tmp 88) rfl wB.heap.size 0 #[.int .i64 kq,.string yq] Z5 Z5 (ko hXe Z3) Au Zd ?_
    have hXf:Blk (D.setCells wB.heap.size 0 #[.int .i64 kq,.string yq].toList) wB.heap.size 45 #[.int .i64 kq,.string yq]:=by
     exact zz1fc
    have hbf:Below r.heap.size r (D.setCells wB.heap.size 0 #[.int .i64 kq,.string yq].toList):=below_setCells hle _ _ O;have hSf:=q.far (b:=wB.heap.size) Z0 #[.int .i64 kq,.string yq].toList 0;exact zz245
  ·refine ai.cons (o:=?_) ?_ (fun K hK=>?_) ai.nil
   rotate_left 1
   ·(first | (simp only [Jx,Q2,Q1];exact rfl) | exact rfl)
   obtain ⟨C,hwA⟩:∃W9,W9=j.alloc (.cells #[.int .i64 0,.string ⟨#[]⟩] 45):=⟨_,rfl⟩
   have U:Below j.heap.size j C:=by rw [hwA];exact eY _
   have F:Blk C j.heap.size 45 #[.int .i64 0,.string ⟨#[]⟩]:=by rw [hwA];exact Blk.new j _ _
   refine lS (v:=.pointer (some ⟨j.heap.size,0,none⟩)) (w':=C) Z5 Xz ?_;clear hwA;have R:=hSd.below U;refine hK.out _ _ R (fun _=>?_);clear hK K
   try simp only [Act.put,J0,JT,Y0]
   refine au (rs:=[6]) Z1 Z3 ?_;refine ai.cons (o:=?_) ?_ (fun K hK=>?_) ai.nil;rotate_left 1
   ·(first | (simp only [Jx,Q2,Q1];exact rfl) | exact rfl)
   obtain ⟨wB,G⟩:∃W9,W9=C.alloc (.cells #[.int .u8 115,.int .i64 0,.string u4,.slice L4 0 d4,.int .u8 116,.int .i64 0,.string v5,.slice L5 0 d5] 60):=⟨_,rfl⟩
   have ac:Below C.heap.size C wB:=by rw [G];exact eY _
   have N:Blk wB C.heap.size 60 #[.int .u8 115,.int .i64 0,.string u4,.slice L4 0 d4,.int .u8 116,.int .i64 0,.string v5,.slice L5 0 d5]:=by rw [G];exact Blk.new C _ _
   refine lS (v:=.slice (some ⟨C.heap.size,0,none⟩) 2 2) (w':=wB) Z5 (by rw [G];first | rfl | go_simp) ?_;clear G;have B:=R.below ac;refine hK.out _ _ B (fun _=>?_);clear hK K
   try simp only [Act.put,J0,JT,Y0]
   refine ak (i:=7) (oi:=?_) (v:=.agg #[.int .i64 60,.slice (some ⟨C.heap.size,0,none⟩) 2 2]) ?_ ?_ ?_ ?_ ?_ ?_ ?_ B ?_;rotate_left 1
   ·(first | (simp only [Jx,Q2,Q1];exact rfl) | exact rfl)
   ·kernel_rfl
   ·kernel_rfl
   ·kernel_rfl
   ·kernel_rfl
   ·exact fun _ _ _ h=>h
   ·refine Or.inl ⟨Z5,fun w g=>?_⟩
    clear g;go_simp
   try simp only [Act.put,J0,JT,Y0]
   refine au (rs:=[8]) Z1 Z3 ?_;refine ai.cons (o:=?_) ?_ (fun K hK=>?_) ai.nil;rotate_left 1
   ·(first | (simp only [Jx,Q2,Q1];exact rfl) | exact rfl)
   have aa:ik wB (some ⟨C.heap.size,0,none⟩) [⟨115,0,(atF l 4).s,[]⟩,⟨116,0,(atF l 5).s,[]⟩]:=by
    rw [<-Hu.out.1,<- Hu.out.2] at N;exact nO (s:=(atF l 4).s) (s':=(atF l 5).s) (L:=[]) (L':=[]) N (P.out _ Z4).1 (P.out _ Z4).2 Z2 Z2
   refine mP (f:=28) Z5 Za (a0.out _ _ aa) ?_;rintro e D ⟨rfl,S⟩;refine ⟨_,rfl,?_⟩;have q:=B.below S;refine hK.out _ _ q (fun _=>?_);clear hK K
   try simp only [Act.put,J0,JT,Y0]
   refine ak (i:=9) (oi:=?_) (v:=.tuple #[.string Z,.agg #[.int .i64 kq,.string yq]]) ?_ ?_ ?_ ?_ ?_ ?_ ?_ q ?_;rotate_left 1
   ·(first | (simp only [Jx,Q2,Q1];exact rfl) | exact rfl)
   ·kernel_rfl
   ·kernel_rfl
   ·kernel_rfl
   ·kernel_rfl
   ·exact fun _ _ _ h=>h
   ·refine Or.inl ⟨Z5,fun w g=>?_⟩
    clear g;go_simp
   try simp only [Act.put,J0,JT,Y0]
   refine ak (i:=10) (oi:=?_) (v:=.string Z) ?_ ?_ ?_ ?_ ?_ ?_ ?_ q ?_;rotate_left 1
   ·(first | (simp only [Jx,Q2,Q1];exact rfl) | exact rfl)
   ·kernel_rfl
   ·kernel_rfl
   ·kernel_rfl
   ·kernel_rfl
   ·exact fun _ _ _ h=>h
   ·refine Or.inl ⟨Z5,fun w g=>?_⟩
    clear g;go_simp
   try simp only [Act.put,J0,JT,Y0]
   refine ak (i:=11) (oi:=?_) (v:=.agg #[.int .i64 kq,.string yq]) ?_ ?_ ?_ ?_ ?_ ?_ ?_ q ?_;rotate_left 1
   ·(first | (simp only [Jx,Q2,Q1];exact rfl) | exact rfl)
   ·kernel_rfl
   ·kernel_rfl
   ·kernel_rfl
   ·kernel_rfl
   ·exact fun _ _ _ h=>h
   ·refine Or.inl ⟨Z5,fun w g=>?_⟩
    clear g;go_simp
   try simp only [Act.put,J0,JT,Y0]
   refine ak (i:=13) (oi:=?_) (v:=.string Z) ?_ ?_ ?_ ?_ ?_ ?_ ?_ q ?_;rotate_left 1
   ·(first | (simp only [Jx,Q2,Q1];exact rfl) | exact rfl)
   ·kernel_rfl
   ·kernel_rfl
   ·kernel_rfl
   ·kernel_rfl
   ·exact fun _ _ _ h=>h
   ·refine Or.inl ⟨Z5,fun w g=>?_⟩
    clear g;go_simp
   try simp only [Act.put,J0,JT,Y0]
   have hXe:=((F.below ac F.lt).below S (F.below ac F.lt).lt)
   have O:Below r.heap.size r D:=Z4
   have hle:r.heap.size<=j.heap.size:=by
    have h9:Below r.heap.size r j:=Z4;exact h9.size
   refine au (rs:=[14]) Z1 Z3 ?_;refine ai.cons (o:=?_) ?_ (fun K hK=>?_) ai.nil;rotate_left 1
   ·(first | (simp only [Jx,Q2,Q1];exact rfl) | exact rfl)
   refine jH Z5 45 (.tmp 10) (.tmp 88) rfl j.heap.size 0 #[.int .i64 kq,.string yq] Z5 Z5 (ko hXe Z3) Au Zd ?_
   have hXf:Blk (D.setCells j.heap.size 0 #[.int .i64 kq,.string yq].toList) j.heap.size 45 #[.int .i64 kq,.string yq]:=by
    exact zz1fc
   have hbf:Below r.heap.size r (D.setCells j.heap.size 0 #[.int .i64 kq,.string yq].toList):=below_setCells hle _ _ O;have hSf:=q.far (b:=j.heap.size) Z0 #[.int .i64 kq,.string yq].toList 0;exact zz245
 case rest =>
  obtain ⟨wf,rfl⟩:∃wf:World,wf=wc:=⟨wc,rfl⟩
  obtain ⟨br,rfl,rfl,hbf,hle,hXf⟩:=hcut;have q0:=hXf.cell 0;have q1:=hXf.cell 1;simp only [Jx,Q1,Q2] at q0 q1;clear ab P Hu bo hb3;rcases bp.out with ⟨am,hz⟩ | ⟨am,hC⟩
  ·subst am
   have Hz:=hide hz;clear hz;go_wp2_with fail;refine (bm.out _).mono ?_;rintro e w2 ⟨rfl,bc⟩;have af:Below r.heap.size r w2:=hbf.trans (bc.mono hbf.size);have hE:=HB.out.2.1.below af HB.out.2.1.lt;have hR:=HB.out.2.2.below af HB.out.2.2.lt;have y0:=hE.cell 0;have y1:=hE.cell 1;have y2:=hE.cell 2;have y3:=hE.cell 3;have z0:=hR.cell 0;have z1:=hR.cell 1;have fy0:=hE.frozen 0;have fy1:=hE.frozen 1;have fy2:=hE.frozen 2;have fy3:=hE.frozen 3;have fz0:=hR.frozen 0;have fz1:=hR.frozen 1;simp at y0 y1 y2 y3 z0 z1;have HV:=hide (Y4 (bn.out.below af) (ag (HB.out.1.trans (af.mono HB.out.1.size)) (some b)));clear af bc hbf hXf;go_wp2_with fail;obtain ⟨q0,q1,q2,q3,q4,q5⟩:=dz hE hR hne (.bool false) (.int .i64 0) (.string ⟨#[]⟩) (.string ⟨#[]⟩) (.int .i64 0) (.string ⟨#[]⟩);unfold dX at q0 q1 q2 q3 q4 q5;refine bodyPost_ret (v:=.tuple #[.string Z,.agg #[.bool false,.int .i64 0,.string ⟨#[]⟩,.string ⟨#[]⟩],.agg #[.int .i64 0,.string ⟨#[]⟩]]) ZK rfl ?_;obtain ⟨bq,hz,ho⟩:=Hz.out;rw [ho,hz];exact ⟨bs bq,false,0,⟨#[]⟩,⟨#[]⟩,0,⟨#[]⟩,rfl,⟨rfl,rfl,rfl,fun _=>rfl,fun h us al h9=>YP⟩,bF HV.out.1 Z0 Z0,bP HV.out.2 Z0 Z0⟩
  ·have HC:=hide hC
   have b6:(kq != 0)=true:=by rw [YG];exact am
   have b7:(kq == 0)=false:=by rw [Y3];exact am
   have HF:=hide hbf;clear am hC;go_wp2_with fail;refine (HC.out _ HF.out).mono ?_;exact zzcc2
end
section
variable {W : World} {b : Nat} {cv : Array Value} {sid : Option Tm} {s : SvS} {A8 A9 : Option Addr} {c8 c9 : Nat} {al : List (List UInt8)} {gr : List (List UInt8 × Int)} {lim : Int} {A : Option Addr} {l : List Fld} {c m : Nat} {num : Int}
theorem Uq (h:Bg W b cv sid s A8 c8 al A9 c9 gr lim A l) (hm:l.length=m) (h7:m=7) (hp:(atF l 2).s=fM) (h3:(atF l 3).n=(m:Int) - 6) (hhas:nM gr al (atF l 0).s (atF l 4).s (ofT (atF l 5).s)=true) (be:qR sid (atF l 0).s (atF l 1).s (atF l 4).s (ofT (atF l 5).s) (ofT (atF l 6).s)) :
  Calls prog 66 #[.pointer (some ⟨b,0,none⟩),.agg #[.int .i64 num,.slice A m c]] W (RTk W b cv (bs (txt sid)) (aU (⟨2,s.fl⟩,⟨[52],some (fC (ofT (atF l 5).s),(atF l 0).s,(atF l 4).s),none⟩))):=by
 obtain ⟨W0,bb,hb0,bc,a9,ba⟩:=mM W (.int .i64 num) (.slice A m c);have P:=h.rs.below hb0;have m1:=bc.cell 1;simp only [Jx,Q1,Q2] at m1;have cb:=h.rs.blk.lt;have b6:W.heap.size+1≠W.heap.size+2:=Z0;have HB:=hide (Y4 hb0 (Y4 a9 ba));have B:=h.fk W0 (ag hb0 (some b));obtain ⟨ad,rfl,b4⟩:=fO B Z0
 have hkf:bD (ofT (atF l 5).s):=by
  exact zz047
 have af:=hide (fun (V:World)=>show Calls prog 113 #[.string (bs (atF l 5).s)] V (fun e w'=>e=.returned (.string (bs (txt (ofT (atF l 5).s))))/\Below V.heap.size V w') from j6 (bs (atF l 5).s) ZV V)
 have F:=hide (fun (V:World) (hb:Below W0.heap.size W0 V)=>show Calls prog 114 #[.slice A9 gr.length c9,.slice A8 al.length c8,.string (bs (atF l 0).s),.string (bs (atF l 4).s),.string (bs (txt (ofT (atF l 5).s)))] V (fun e w'=>e=.returned (.bool true)/\Below W0.heap.size W0 w') from by
  exact zz401)
 have S:=P.at_ h.p11;have T:=P.at_ h.p13
 have bd:bD (ofT (atF l 6).s):=by
  obtain ⟨t,ht,hf,_⟩:=mG (s:=(atF l 6).s) (by have:=h.sz 6;omega);rw [ht];exact dZ hf
 have J:=hide (fun (V:World)=>show Calls prog 113 #[.string (bs (atF l 6).s)] V (fun e w'=>e=.returned (.string (bs (txt (ofT (atF l 6).s))))/\Below V.heap.size V w') from j6 (bs (atF l 6).s) (by show (atF l 6).s.length<=_;have:=h.sz 6;omega) V);have r:=hide (fun (V:World)=>qD h.fine hkf bd (user:=bs (atF l 0).s) (service:=bs (atF l 1).s) (alg:=bs (atF l 4).s) (by show (atF l 0).s.length<=_;have:=h.sz 0;omega) (by show (atF l 1).s.length<=_;have:=h.sz 1;omega) (by show (atF l 4).s.length<=_;have:=h.sz 4;omega) V);have D:=P.sid_;have b5:((pG (iM (ofT (atF l 5).s)=false) (ofT (atF l 6).s=none\/ofT (atF l 6).s≠lU sid (bs (atF l 0).s) (bs (atF l 1).s) (bs (atF l 4).s) (fC (ofT (atF l 5).s)))).toList == ([]:List UInt8))=true:=by rw [show _=(⟨#[]⟩:ByteArray) from be,ByteArray.toList_eq];rfl
 generalize pG (iM (ofT (atF l 5).s)=false) (ofT (atF l 6).s=none\/ofT (atF l 6).s≠lU sid (bs (atF l 0).s) (bs (atF l 1).s) (bs (atF l 4).s) (fC (ofT (atF l 5).s)))=ck at r b5;have am:=hide (fun (V:World)=>show Calls prog 116 #[.string (bs (txt (ofT (atF l 5).s)))] V (fun e w'=>e=.returned (.tuple #[.int .i64 (fC (ofT (atF l 5).s)),.bool (iM (ofT (atF l 5).s))])/\Below V.heap.size V w') from qy hkf V);have bo:=hide (fun (V:World)=>dH V);have a6:=hide h.fk;have a7:=hide P
 have ca:ad.block<W.heap.size:=by
  obtain ⟨cc,e9,h9⟩:=fO (h.fk W (az W _)) Z0;cases e9
  exact h9
 have u:=(bu B (i:=0) Z0 rfl).2;simp only [Nat.reduceMul,Nat.add_zero] at u;have f2:=(bu B (i:=2) Z0 rfl).2;simp only [Nat.reduceMul,Nat.add_zero] at f2;have f3:=(bu B (i:=3) Z0 rfl).1;simp only [Nat.reduceMul,Nat.add_zero] at f3;have z:=(bu B (i:=4) Z0 rfl).2;simp only [Nat.reduceMul,Nat.add_zero] at z;have f5:=(bu B (i:=5) Z0 rfl).2;simp only [Nat.reduceMul,Nat.add_zero] at f5;have f1:=(bu B (i:=1) Z0 rfl).2;simp only [Nat.reduceMul,Nat.add_zero] at f1;have f6:=(bu B (i:=6) Z0 rfl).2;simp only [Nat.reduceMul,Nat.add_zero] at f6;have e2:((bs (atF l 2).s).toList == ([112,117,98,108,105,99,107,101,121]:List UInt8))=true:=YX;have e3:((atF l 3).n == ((m:Nat):Int) - 6)=true:=Xw;have a8:((atF l 3).n != ((m:Nat):Int) - 6)=false:=X3;generalize bs (atF l 2).s=u2 at f2 e2;generalize (atF l 3).n=n3 at f3 e3 a8;generalize bs (txt (ofT (atF l 5).s))=kx at af F r am;generalize bs (atF l 5).s=u5 at f5 af;generalize bs (txt (ofT (atF l 6).s))=sx at J r;generalize bs (atF l 6).s=u6 at f6 J;generalize bg:bs (atF l 0).s=u0 at u F r;generalize bh:bs (atF l 4).s=q at z F r;generalize bs (atF l 1).s=u1 at f1 r;have Hu:=hide (Y4 bg bh);generalize b7:bs (txt sid)=b8 at D r a7 ⊢;have br:=hide (show ((fC (ofT (atF l 5).s):Nat):Int)=fC (ofT (atF l 5).s) from rfl);generalize bj:((fC (ofT (atF l 5).s):Nat):Int)=R at am;have bq:=hide bj;generalize iM (ofT (atF l 5).s)=ce at am;clear bg bh bj b7 br;have bt:=u;have bx:=z;have bl:=S;have bm:=T;have O:ad.block<W0.heap.size:=b4;have I:b<W0.heap.size:=P.blk.lt
 have bw:=f1;have b0:=f6;have bn:=D;clear h hb0 bc a9 ba P B hp h3 hkf bd hhas be;subst h7;simp only [show (((7:Nat):Int)) - 6=1 from rfl] at e3 a8;go_enter func66,ntmps66;go_upto_region 1 with fail;rw [<-bb];clear bb;go_upto_region 6 with fail
 go_upto_region 7 with (first
  | (go_at_call 113;refine (af.out _).mono ?_;rintro e w1 ⟨rfl,ap⟩)
  | fail)
 have u:=aA ap u;have z:=aA ap z;have S:=aA ap S;have T:=aA ap T
 go_region_held3 (fun V=>V.cell? ⟨b,13,none⟩=some (.slice A9 gr.length c9)/\V.cell? ⟨b,11,none⟩=some (.slice A8 al.length c8)/\V.cell? ⟨ad.block,ad.off+2,none⟩=some (.string u0)/\V.cell? ⟨ad.block,ad.off+16+2,none⟩=some (.string q))
  (exact ⟨T,S,u,z⟩)
  (first
   | (go_at_call 114;refine (F.out _ Z4).mono ?_;rintro e w3 ⟨rfl,hb3⟩;replace u:=(hb3.cell (p:=⟨ad.block,ad.off+2,none⟩) O).trans bt;replace z:=(hb3.cell (p:=⟨ad.block,ad.off+16+2,none⟩) O).trans bx;replace S:=(hb3.cell (p:=⟨b,11,none⟩) I).trans bl;replace T:=(hb3.cell (p:=⟨b,13,none⟩) I).trans bm)
   | fail)
 have Z:=hb3;have f1:=(Z.cell (p:=⟨ad.block,ad.off+4+2,none⟩) O).trans bw;have f6:=(Z.cell (p:=⟨ad.block,ad.off+24+2,none⟩) O).trans b0;have D:=(Z.cell (p:=⟨b,23,none⟩) I).trans bn;clear S T;go_upto_region 14 with fail
 go_region_held3 (fun V=>V.cell? ⟨b,23,none⟩=some (.string b8)/\V.cell? ⟨ad.block,ad.off+2,none⟩=some (.string u0)/\V.cell? ⟨ad.block,ad.off+4+2,none⟩=some (.string u1)/\V.cell? ⟨ad.block,ad.off+16+2,none⟩=some (.string q)/\V.cell? ⟨ad.block,ad.off+24+2,none⟩=some (.string u6))
  (exact ⟨D,u,f1,z,f6⟩)
  (first
   | (go_at_call 113;refine (J.out _).mono ?_;rintro e w5 ⟨rfl,hb5⟩;replace D:=aA hb5 D;replace u:=aA hb5 u;replace f1:=aA hb5 f1;replace z:=aA hb5 z;replace f6:=aA hb5 f6)
   | (go_at_call 115;refine (r.out _).mono ?_;rintro e w6 ⟨rfl,aa⟩;replace D:=aA aa D;replace u:=aA aa u;replace f1:=aA aa f1;replace z:=aA aa z;replace f6:=aA aa f6)
   | fail)
 have N:Below W0.heap.size W0 w6:=Z4;have ao:=a7.out.below N;have b9:=ao.ph;have b3:=ao.blk.frozen 24
 obtain ⟨w7,ac⟩:∃W7,W7=w6.setCell ⟨b,24,none⟩ (.int .i64 (2:Nat)):=⟨_,rfl⟩
 have a3:=ao.setPh 2;rw [<-ac] at a3;have a0:W.grownBy w7 (some b):=by rw [ac];exact ah (ag (HB.out.1.trans (N.mono HB.out.1.size)) (some b)) (.inl rfl) _
 have aF:=a6.out w7 a0;have u:=(bu aF (i:=0) Z0 rfl).2;have z:=(bu aF (i:=4) Z0 rfl).2;rw [Hu.out.1] at u;rw [Hu.out.2] at z;simp only [Nat.reduceMul,Nat.add_zero] at u z;have aE:=(HB.out.2.1.below N HB.out.2.1.lt).far (p:=⟨b,24,none⟩) X9 (.int .i64 (2:Nat));have a4:=(HB.out.2.2.below N HB.out.2.2.lt).far (p:=⟨b,24,none⟩) (by show W.heap.size+2≠b;omega) (.int .i64 (2:Nat));rw [<-ac] at aE a4;have H7:=hide (Y4 a3 (Y4 a0 (Y4 aE a4)));clear ao a3 a0 aF aE a4 f1 f6 D r J F af a6;go_upto_region 17 with fail;rw [show (2:Int)=((2:Nat):Int) from rfl,<- ac];clear ac b9 b3
 go_upto_region 18 with (first
  | (go_at_call 116;refine (am.out _).mono ?_;rintro e w8 ⟨rfl,G⟩)
  | fail)
 have u:=aA G u;have z:=aA G z;have U:=H7.out.2.2.1.below G H7.out.2.2.1.lt;have X:=H7.out.2.2.2.below G H7.out.2.2.2.lt;refine fJ (fun V=>V.cell? ⟨ad.block,ad.off+2,none⟩=some (.string u0)/\V.cell? ⟨ad.block,ad.off+16+2,none⟩=some (.string q)) (fun i=>decide (i<12)) Z1 ?_
 obtain ⟨Wd,hWd⟩:∃Wd,Wd=w8.drew:=⟨_,rfl⟩
 have C:Below w8.heap.size w8 Wd:=Xl
 have j:Wd.cell? ⟨ad.block,ad.off+2,none⟩=some (.string u0)/\Wd.cell? ⟨ad.block,ad.off+16+2,none⟩=some (.string q):=⟨aA C u,aA C z⟩
 rw [<-hWd];clear hWd u z;refine ak (i:=0) (oi:=?_) (v:=.int .i64 R) ?_ ?_ ?_ ?_ ?_ ?_ ?_ j ?_;rotate_left 1
 ·(first | (simp only [Jx,Q2,Q1];exact rfl) | exact rfl)
 ·kernel_rfl
 ·kernel_rfl
 ·kernel_rfl
 ·kernel_rfl
 ·exact fun _ _ _ h=>h
 ·refine Or.inl ⟨Z5,fun w g=>?_⟩
  clear g;go_simp
 try simp only [Act.put,J0,JT,Y0]
 refine ak (i:=1) (oi:=?_) (v:=.slice (some ad) 7 c) ?_ ?_ ?_ ?_ ?_ ?_ ?_ j ?_;rotate_left 1
 ·(first | (simp only [Jx,Q2,Q1];exact rfl) | exact rfl)
 ·kernel_rfl
 ·kernel_rfl
 ·kernel_rfl
 ·kernel_rfl
 ·exact fun _ _ _ h=>h
 ·refine Or.inl ⟨Z5,fun w g=>?_⟩
  clear g;go_simp
 try simp only [Act.put,J0,JT,Y0]
 refine ak (i:=2) (oi:=?_) (v:=.pointer (some ad)) ?_ ?_ ?_ ?_ ?_ ?_ ?_ j ?_;rotate_left 1
 ·(first | (simp only [Jx,Q2,Q1];exact rfl) | exact rfl)
 ·kernel_rfl
 ·kernel_rfl
 ·kernel_rfl
 ·kernel_rfl
 ·exact fun _ _ _ h=>h
 ·refine Or.inl ⟨Z5,fun w g=>?_⟩
  clear g;go_simp
 try simp only [Act.put,J0,JT,Y0]
 refine ak (i:=3) (oi:=?_) (v:=.pointer (some ⟨ad.block,ad.off+2,none⟩)) ?_ ?_ ?_ ?_ ?_ ?_ ?_ j ?_;rotate_left 1
 ·(first | (simp only [Jx,Q2,Q1];exact rfl) | exact rfl)
 ·kernel_rfl
 ·kernel_rfl
 ·kernel_rfl
 ·kernel_rfl
 ·exact fun _ _ _ h=>h
 ·refine Or.inl ⟨Z5,fun w g=>?_⟩
  clear g;go_simp
 try simp only [Act.put,J0,JT,Y0]
 refine ak (i:=4) (oi:=?_) (v:=.string u0) ?_ ?_ ?_ ?_ ?_ ?_ ?_ j ?_;rotate_left 1
 ·(first | (simp only [Jx,Q2,Q1];exact rfl) | exact rfl)
 ·kernel_rfl
 ·kernel_rfl
 ·kernel_rfl
 ·kernel_rfl
 ·exact fun _ _ _ h=>h
 ·refine Or.inl ⟨Z5,fun w g=>?_⟩
  have g0:=g.1;clear g;go_simp
 try simp only [Act.put,J0,JT,Y0]
 refine ak (i:=5) (oi:=?_) (v:=.slice (some ad) 7 c) ?_ ?_ ?_ ?_ ?_ ?_ ?_ j ?_;rotate_left 1
 ·(first | (simp only [Jx,Q2,Q1];exact rfl) | exact rfl)
 ·kernel_rfl
 ·kernel_rfl
 ·kernel_rfl
 ·kernel_rfl
 ·exact fun _ _ _ h=>h
 ·refine Or.inl ⟨Z5,fun w g=>?_⟩
  clear g;go_simp
 try simp only [Act.put,J0,JT,Y0]
 refine ak (i:=6) (oi:=?_) (v:=.pointer (some ⟨ad.block,ad.off+16,none⟩)) ?_ ?_ ?_ ?_ ?_ ?_ ?_ j ?_;rotate_left 1
 ·(first | (simp only [Jx,Q2,Q1];exact rfl) | exact rfl)
 ·kernel_rfl
 ·kernel_rfl
 ·kernel_rfl
 ·kernel_rfl
 ·exact fun _ _ _ h=>h
 ·refine Or.inl ⟨Z5,fun w g=>?_⟩
  clear g;go_simp
 try simp only [Act.put,J0,JT,Y0]
 refine ak (i:=7) (oi:=?_) (v:=.pointer (some ⟨ad.block,ad.off+16+2,none⟩)) ?_ ?_ ?_ ?_ ?_ ?_ ?_ j ?_;rotate_left 1
 ·(first | (simp only [Jx,Q2,Q1];exact rfl) | exact rfl)
 ·kernel_rfl
 ·kernel_rfl
 ·kernel_rfl
 ·kernel_rfl
 ·exact fun _ _ _ h=>h
 ·refine Or.inl ⟨Z5,fun w g=>?_⟩
  clear g;go_simp
 try simp only [Act.put,J0,JT,Y0]
 refine ak (i:=8) (oi:=?_) (v:=.string q) ?_ ?_ ?_ ?_ ?_ ?_ ?_ j ?_;rotate_left 1
 ·(first | (simp only [Jx,Q2,Q1];exact rfl) | exact rfl)
 ·kernel_rfl
 ·kernel_rfl
 ·kernel_rfl
 ·kernel_rfl
 ·exact fun _ _ _ h=>h
 ·refine Or.inl ⟨Z5,fun w g=>?_⟩
  have g4:=g.2;clear g;go_simp
 try simp only [Act.put,J0,JT,Y0]
 refine ak (i:=9) (oi:=?_) (v:=.agg #[.bool true,.int .i64 R,.string u0,.string q]) ?_ ?_ ?_ ?_ ?_ ?_ ?_ j ?_;rotate_left 1
 ·(first | (simp only [Jx,Q2,Q1];exact rfl) | exact rfl)
 ·kernel_rfl
 ·kernel_rfl
 ·kernel_rfl
 ·kernel_rfl
 ·exact fun _ _ _ h=>h
 ·refine Or.inl ⟨Z5,fun w g=>?_⟩
  clear g;go_simp
 try simp only [Act.put,J0,JT,Y0]
 refine au (rs:=[10]) Z1 Z3 ?_;refine ai.cons (o:=?_) ?_ (fun K hK=>?_) ai.nil;rotate_left 1
 ·(first | (simp only [Jx,Q2,Q1];exact rfl) | exact rfl)
 refine mP (f:=65) Z5 Za (bo.out _) ?_;rintro e w9 ⟨rfl,Q⟩;refine ⟨_,rfl,?_⟩
 have Y:w9.cell? ⟨ad.block,ad.off+2,none⟩=some (.string u0)/\w9.cell? ⟨ad.block,ad.off+16+2,none⟩=some (.string q):=⟨aA Q j.1,aA Q j.2⟩
 refine hK.out _ _ Y (fun _=>?_);have an:=(U.below C U.lt).below Q (U.below C U.lt).lt;have a5:=(X.below C X.lt).below Q (X.below C X.lt).lt;clear hK K
 try simp only [Act.put,J0,JT,Y0]
 refine ak (i:=11) (oi:=?_) (v:=.string ⟨#[52]⟩) ?_ ?_ ?_ ?_ ?_ ?_ ?_ Y ?_;rotate_left 1
 ·(first | (simp only [Jx,Q2,Q1];exact rfl) | exact rfl)
 ·kernel_rfl
 ·kernel_rfl
 ·kernel_rfl
 ·kernel_rfl
 ·exact fun _ _ _ h=>h
 ·refine Or.inl ⟨Z5,fun w g=>?_⟩
  clear g;go_simp
 try simp only [Act.put,J0,JT,Y0]
 refine au (rs:=[12]) Z1 Z3 ?_;refine ai.cons (o:=?_) ?_ (fun K hK=>?_) ai.nil;rotate_left 1
 ·(first | (simp only [Jx,Q2,Q1];exact rfl) | exact rfl)
 refine jH Z5 82 (.tmp 5) (.tmp 150) rfl (W.heap.size+1) 0 #[.bool true,.int .i64 R,.string u0,.string q] Z5 Z5 (ko an Z3) Uk Zd ?_
 have L:(w9.setCells (W.heap.size+1) 0 [.bool true,.int .i64 R,.string u0,.string q]).cell? ⟨ad.block,ad.off+2,none⟩=some (.string u0)/\(w9.setCells (W.heap.size+1) 0 [.bool true,.int .i64 R,.string u0,.string q]).cell? ⟨ad.block,ad.off+16+2,none⟩=some (.string q):=⟨(bH Xt _ _ _).trans Y.1,(bH Xt _ _ _).trans Y.2⟩
 refine hK.out _ _ L (fun _=>?_);clear hK K
 try simp only [Act.put,J0,JT,Y0]
 refine au (rs:=[13]) Z1 Z3 ?_;refine ai.cons (o:=?_) ?_ (fun K hK=>?_) ai.nil;rotate_left 1
 ·(first | (simp only [Jx,Q2,Q1];exact rfl) | exact rfl)
 refine jH Z5 45 (.tmp 6) (.tmp 151) rfl (W.heap.size+1+1) 0 #[.int .i64 0,.string ⟨#[]⟩] Z5 Z5 (ko (Blk.setCells_far Z0 _ _ a5) Z3) Au Zd ?_
 have av:((w9.setCells (W.heap.size+1) 0 [.bool true,.int .i64 R,.string u0,.string q]).setCells (W.heap.size+1+1) 0 [.int .i64 0,.string ⟨#[]⟩]).cell? ⟨ad.block,ad.off+2,none⟩=some (.string u0)/\((w9.setCells (W.heap.size+1) 0 [.bool true,.int .i64 R,.string u0,.string q]).setCells (W.heap.size+1+1) 0 [.int .i64 0,.string ⟨#[]⟩]).cell? ⟨ad.block,ad.off+16+2,none⟩=some (.string q):=⟨(bH Xt _ _ _).trans L.1,(bH Xt _ _ _).trans L.2⟩
 refine hK.out _ _ av (fun _=>?_);clear hK K
 try simp only [Act.put,J0,JT,Y0]
 refine cB Z1 ?_ _;have aw:(w9.setCells (W.heap.size+1) 0 [.bool true,.int .i64 R,.string u0,.string q]).setCells (W.heap.size+1+1) 0 [.int .i64 0,.string ⟨#[]⟩]=dX w9 (W.heap.size+1) (W.heap.size+2) (.bool true) (.int .i64 R) (.string u0) (.string q) (.int .i64 0) (.string ⟨#[]⟩):=rfl;rw [aw];have cd:=an.lt;obtain ⟨q0,q1,q2,q3,q4,q5⟩:=dz an a5 b6 (.bool true) (.int .i64 R) (.string u0) (.string q) (.int .i64 0) (.string ⟨#[]⟩);have ab:=G.trans ((C.trans (Q.mono C.size)).mono G.size);have HV:=hide (Y4 (H7.out.1.below ab) (aj H7.out.2.1 (ag ab (some b))));generalize aq:dX w9 (W.heap.size+1) (W.heap.size+2) (.bool true) (.int .i64 R) (.string u0) (.string q) (.int .i64 0) (.string ⟨#[]⟩)=wf at q0 q1 q2 q3 q4 q5 ⊢;have bp:=hide aq;clear aq aw av L Y j an a5 U X G C Q ab;go_wp2_with fail;refine bodyPost_ret (v:=.tuple #[.string ⟨#[52]⟩,.agg #[.bool true,.int .i64 R,.string u0,.string q],.agg #[.int .i64 0,.string ⟨#[]⟩]]) ZK rfl ?_;have aq:=bp.out;subst aq;refine ⟨⟨#[52]⟩,true,R,u0,q,0,⟨#[]⟩,rfl,⟨rfl,rfl,rfl,fun h9=>YP,fun h us al h9=>?_⟩,bF HV.out.1 Z0 Z0,bP HV.out.2 Z0 Z0⟩;cases h9
 exact ⟨rfl,bq.out.symm,Hu.out.1.symm,Hu.out.2.symm⟩
end
end Go.Proofs.YtnhekaepgpbijaaGreatDoor
