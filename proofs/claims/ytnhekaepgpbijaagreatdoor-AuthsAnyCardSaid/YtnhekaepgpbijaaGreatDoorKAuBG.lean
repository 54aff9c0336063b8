/- Several of my texts in one: AuS, AuT, AuO, AuE, AuF, AuV, AuW, AuN, AuB, AuC. -/
import Derived.Test.YtnhekaepgpbijaaGreatDoorKAli
import Derived.Test.YtnhekaepgpbijaaGreatDoorKAuKG
import Derived.Test.YtnhekaepgpbijaaGreatDoorKCfAoG
set_option linter.unusedVariables false
set_option linter.unusedSimpArgs false
set_option maxHeartbeats 40000000
set_option maxRecDepth 100000
namespace Go.Proofs.YtnhekaepgpbijaaGreatDoor
open Go.Proofs.Tryz Go.RowKit Go.ChangeShapes Go.WideShapes Go.Sort
variable {s1:ByteArray} {o:Option (Nat × List UInt8 × List UInt8)} {k many nk ns:Int} {v:Value} {l:List Fld} {p_:Prop} {c num:Nat} {A:Option Addr} {w':World} {ps:List (List UInt8)} {sv:List UInt8}
theorem jd (lim:Int) (s:SvS):(aP lim s).2.ev=none:=by unfold aP;split <;> rfl
theorem Nr {S:Nat->Prop} {w:World} {o:ByteArray} (h:yx S w s1 k o v) (hs:o=⟨#[]⟩):v=.nilIface:=by
 rcases h with h | ⟨_,j,_⟩
 ·exact h.2
 ·rw [hs] at j
  exact absurd j Z7
theorem KC {S:Nat->Prop} {w:World} {j:ByteArray} (h:yx S w s1 k j v) (hs:j≠⟨#[]⟩):∃b,v=aK b:=by
 rcases h with h | ⟨_,_,b1,b2,o,_⟩
 ·exact absurd h.1 hs
 ·exact ⟨b1,o⟩
section
variable {w0 W W' : World} {B g lo hi bs_ bg : Nat} {A9 A8 : Option Addr} {c9 c8 : Nat} {gr : List (List UInt8 × Int)} {al : List (List UInt8)} {lim n : Int} {sid : Option Tm} {T T' : List Tm} {S S' : Nat -> Prop} {s : SvS}
theorem PX (h:di w0 B g lo hi bs_ bg A9 c9 gr A8 c8 al lim n sid T S s W) (w:Idn T (ofT (atF l 5).s) nk) (A:Idn T (ofT (atF l 6).s) ns) (h0:(atF l 0).s.length<=40000) (h1:(atF l 1).s.length<=40000) (h4:(atF l 4).s.length<=40000) (hT:T.length<=900000) (hf:(s.fl:Int)<lim) (hl:s.fl<=1000) (hm:(many == 6)=false) (hs:Jp sid l≠⟨#[]⟩) :
  Calls prog 190 #[.pointer (some ⟨bs_,0,none⟩),.agg (gq l nk ns),.int .i64 many] W (qj w0 B g lo hi bs_ bg A9 c9 gr A8 c8 al lim n sid T S W 100 (atF l 1).s (aP lim s)):=by
 unfold gq
 obtain ⟨q,hW0⟩:∃q,q=W.alloc (.cells #[.string (bs (atF l 0).s),.string (bs (atF l 1).s),.string (bs (atF l 2).s),.int .i64 (atF l 3).n,.string (bs (atF l 4).s),.int .i64 nk,.string (bs (atF l 5).s),.int .i64 ns] 197):=⟨_,rfl⟩
 have u:Below W.heap.size W q:=Zs;have r:Blk q W.heap.size 197 #[.string (bs (atF l 0).s),.string (bs (atF l 1).s),.string (bs (atF l 2).s),.int .i64 (atF l 3).n,.string (bs (atF l 4).s),.int .i64 nk,.string (bs (atF l 5).s),.int .i64 ns]:=Zp;have o:=h.below u;have P:=h.pay.ar.sL;have X:¬ S bs_:=h.zone.no h.los h.his;have p:¬ S W.heap.size:=fun h9=>by have:=P _ h9;omega
 have ao:=h.his;have an:=h.hig;have hiw:=h.hiw
 have I:=hide (show ∀V,Below q.heap.size q V->Calls prog 16 #[.pointer (some ⟨g,0,none⟩),.int .i64 n,.string (bs (atF l 0).s),.string (bs (atF l 1).s),.string (bs (atF l 4).s),.int .i64 nk,.int .i64 ns] V (fun e w'=>(∃b,e=.returned (.iface 168 (.pointer (some ⟨b,0,none⟩))))/\∃T' S',T <+: T'/\T'.length<=T.length+11/\Pay w0 B g T' S' w'/\Grown S q S' w') from fun V hb =>
  (pM (o.pay.use.below hb) h.id w A (by show (atF l 0).s.length<=_;omega) (by show (atF l 1).s.length<=_;omega) Xs Z0).mono fun e w' hC=>by
   obtain ⟨T',S',v,e1,e2,e3,e4,e5,e6⟩:=hC;have hP:=(o.pay.below hb).grown e5 e4 Z0;have hG:=(Grown.of_below (S:=S) hb).trans e5;obtain ⟨b,rfl⟩:=KC e6 hs
   exact ⟨⟨b,e1⟩,T',S',e2,e3,hP,hG⟩)
 have x0:=o.sb.cell 0;have x1:=o.sb.cell 1;have D:=r.cell 0;have F:=r.cell 1;have G:=r.cell 4;have Y:=r.cell 5;have Z:=r.cell 7;simp only [Jx,Q1,Q2] at x0 x1 D F G Y Z;have ab:=hide o;have ad:=hide u;have ap:=r.lt;have am:=hide (Y4 w A);clear h o P r w A u;have HL:=hide (Y4 h0 (Y4 h1 h4));clear h0 h1 h4;generalize Q:bs (atF l 0).s=u0 at I D hW0 ⊢;generalize R:bs (atF l 1).s=u1 at I F hW0 ⊢;generalize U:bs (atF l 4).s=u4 at I G hW0 ⊢;have Hu:=hide (Y4 Q (Y4 R U));clear Q R U;go_enter func190,ntmps190;go_upto_region 1 with fail;rw [<-hW0];clear hW0;go_upto_region 4 with fail
 go_region_held3 (fun V=>V.cell? ⟨bs_,0,none⟩=some (.pointer (some ⟨g,0,none⟩))/\V.cell? ⟨bs_,1,none⟩=some (.int .i64 n)/\V.cell? ⟨W.heap.size,0,none⟩=some (.string u0)/\V.cell? ⟨W.heap.size,1,none⟩=some (.string u1)/\V.cell? ⟨W.heap.size,4,none⟩=some (.string u4)/\V.cell? ⟨W.heap.size,5,none⟩=some (.int .i64 nk)/\V.cell? ⟨W.heap.size,7,none⟩=some (.int .i64 ns))
  (exact ⟨x0,x1,D,F,G,Y,Z⟩)
  (first
   | (go_at_call 16;refine (I.out _ Z4).mono ?_;rintro e w2 ⟨⟨b,rfl⟩,T2,S2,C,O,L,j⟩;replace x0:=j.outs.cell x0 X;replace x1:=j.outs.cell x1 X;replace D:=j.outs.cell D p;replace F:=j.outs.cell F p;replace G:=j.outs.cell G p;replace Y:=j.outs.cell Y p;replace Z:=j.outs.cell Z p)
   | fail)
 have ac:=hide (ab.out.grown j L C);have aa:=hide (((Grown.of_below ad.out).trans j).sb bs_ bg);have Hp:=hide (Y4 C O);have af:=j.size;have HR:=hide (nD ac.out hf hl);clear j L C O I x0 x1 D F G Y Z;go_wp2_with fail;refine HR.out.mono ?_;rintro e w3 ⟨er,rfl,N,_,K,J⟩;have Hf:=hide (Y4 N (Y4 K J));clear N K J;generalize hz:bs (aP lim s).2.out=z;have Hz:=hide hz;clear hz;go_wp2_with fail;go_ret3;have hz:=Hz.out;subst hz;exact ⟨T2,S2,.slice none 0 0,er,rfl,by rw [jd];rfl,Hf.out.1,Hp.out.1,by have:=Hp.out.2;omega,Hf.out.2.1,aa.out.trans Hf.out.2.2⟩
theorem LY (h:di w0 B g lo hi bs_ bg A9 c9 gr A8 c8 al lim n sid T S s W) (O:Idn T (ofT (atF l 5).s) nk) (P:Idn T (ofT (atF l 6).s) ns) (h0:(atF l 0).s.length<=40000) (h1:(atF l 1).s.length<=40000) (h4:(atF l 4).s.length<=40000) (hT:T.length<=900000) (hf:(s.fl:Int)<lim) (hl:s.fl<=1000) (hm:(many == 6)=false) (hs:Jp sid l=⟨#[]⟩) :
  Calls prog 190 #[.pointer (some ⟨bs_,0,none⟩),.agg (gq l nk ns),.int .i64 many] W (qj w0 B g lo hi bs_ bg A9 c9 gr A8 c8 al lim n sid T S W 100 (atF l 1).s ((⟨2,s.fl⟩,⟨[52],some (fC (ofT (atF l 5).s),(atF l 0).s,(atF l 4).s),none⟩))):=by
 unfold gq
 obtain ⟨I,hW0⟩:∃I,I=W.alloc (.cells #[.string (bs (atF l 0).s),.string (bs (atF l 1).s),.string (bs (atF l 2).s),.int .i64 (atF l 3).n,.string (bs (atF l 4).s),.int .i64 nk,.string (bs (atF l 5).s),.int .i64 ns] 197):=⟨_,rfl⟩
 have N:Below W.heap.size W I:=Zs;have K:Blk I W.heap.size 197 #[.string (bs (atF l 0).s),.string (bs (atF l 1).s),.string (bs (atF l 2).s),.int .i64 (atF l 3).n,.string (bs (atF l 4).s),.int .i64 nk,.string (bs (atF l 5).s),.int .i64 ns]:=Zp;have u:=h.below N;have am:=h.pay.ar.sL;have aq:¬ S bs_:=h.zone.no h.los h.his;have z:¬ S W.heap.size:=fun h9=>by have:=am _ h9;omega
 have a9:=h.his;have a8:=h.hig;have hiw:=h.hiw
 have Y:=hide (show ∀V,Below I.heap.size I V->Calls prog 16 #[.pointer (some ⟨g,0,none⟩),.int .i64 n,.string (bs (atF l 0).s),.string (bs (atF l 1).s),.string (bs (atF l 4).s),.int .i64 nk,.int .i64 ns] V (fun e w'=>e=.returned .nilIface/\∃T' S',T <+: T'/\T'.length<=T.length+11/\Pay w0 B g T' S' w'/\Grown S I S' w') from fun V L =>
  (pM (u.pay.use.below L) h.id O P (by show (atF l 0).s.length<=_;omega) (by show (atF l 1).s.length<=_;omega) Xs Z0).mono fun e w' hC=>by
   obtain ⟨T',S',v,e1,e2,e3,e4,e5,e6⟩:=hC;have hP:=(u.pay.below L).grown e5 e4 Z0;have hG:=(Grown.of_below (S:=S) L).trans e5;obtain rfl:=Nr e6 hs
   exact ⟨e1,T',S',e2,e3,hP,hG⟩)
 have G:=u.sb.cell 0;have x1:=u.sb.cell 1;have o:=K.cell 0;have p:=K.cell 1;have r:=K.cell 4;have F:=K.cell 5;have r7:=K.cell 7;simp only [Jx,Q1,Q2] at G x1 o p r F r7;have a0:=hide u;have a5:=hide N;have ba:=K.lt;have a6:=hide (Y4 O P);clear h u am K O P N;have HL:=hide (Y4 h0 (Y4 h1 h4));clear h0 h1 h4;generalize an:bs (atF l 0).s=u0 at Y o hW0 ⊢;generalize ao:bs (atF l 1).s=u1 at Y p hW0 ⊢;generalize ap:bs (atF l 4).s=u4 at Y r hW0 ⊢;have Hu:=hide (Y4 an (Y4 ao ap));clear an ao ap;go_enter func190,ntmps190;go_upto_region 1 with fail;rw [<-hW0];clear hW0;go_upto_region 4 with fail
 go_region_held3 (fun V=>V.cell? ⟨bs_,0,none⟩=some (.pointer (some ⟨g,0,none⟩))/\V.cell? ⟨bs_,1,none⟩=some (.int .i64 n)/\V.cell? ⟨W.heap.size,0,none⟩=some (.string u0)/\V.cell? ⟨W.heap.size,1,none⟩=some (.string u1)/\V.cell? ⟨W.heap.size,4,none⟩=some (.string u4)/\V.cell? ⟨W.heap.size,5,none⟩=some (.int .i64 nk)/\V.cell? ⟨W.heap.size,7,none⟩=some (.int .i64 ns))
  (exact ⟨G,x1,o,p,r,F,r7⟩)
  (first
   | (go_at_call 16;refine (Y.out _ Z4).mono ?_;rintro e w2 ⟨rfl,T2,S2,R,af,ac,j⟩;replace G:=j.outs.cell G aq;replace x1:=j.outs.cell x1 aq;replace o:=j.outs.cell o z;replace p:=j.outs.cell p z;replace r:=j.outs.cell r z;replace F:=j.outs.cell F z;replace r7:=j.outs.cell r7 z)
   | fail)
 have Z:=hide (a0.out.grown j ac R);have av:=hide (((Grown.of_below a5.out).trans j).sb bs_ bg);have Hp:=hide (Y4 R af);have a7:=j.size;have HO:=hide (fun (V:World) (L:Below w2.heap.size w2 V)=>(tZ (Z.out.pay.ar.below L) (a6.out.1.pre Hp.out.1)).mono fun e w' h9=>(⟨h9.1,L.trans (h9.2.mono L.size)⟩:_/\Below w2.heap.size w2 w'));clear j ac R af Y HL
 have ad:iM (ofT (atF l 5).s)=true:=by
  cases hq:iM (ofT (atF l 5).s) with
  | true=>rfl
  | false =>
   have h9:Jp sid l=J4:=O0 hq;rw [hs] at h9;exact absurd h9 Z2
 rw [ad] at HO;have HW:=hide (show fC (ofT (atF l 5).s)=fC (ofT (atF l 5).s) from rfl);generalize D:fC (ofT (atF l 5).s)=bb at HO;have ab:=hide D;clear ad hs HW D;go_upto_region 7 with fail
 go_region_held3 (fun V=>V.cell? ⟨bs_,0,none⟩=some (.pointer (some ⟨g,0,none⟩))/\V.cell? ⟨W.heap.size,5,none⟩=some (.int .i64 nk))
  (exact ⟨G,F⟩)
  (first
   | (go_at_call 54;refine (HO.out _ Z4).mono ?_;rintro e w3 ⟨rfl,hb3⟩;replace G:=aA hb3 G;replace F:=aA hb3 F)
   | fail)
 have aa:=hide (Z.out.below hb3);have aw:=hide (av.out.trans (Grown.of_below hb3));have o:=aA hb3 o;have p:=aA hb3 p;have r:=aA hb3 r;have A:=aa.out.sb;have c3:=A.cell 3;have f3:=A.frozen 3;simp only [Jx,Q1,Q2] at c3
 obtain ⟨w4,C⟩:∃W4,W4=w3.setCell ⟨bs_,3,none⟩ (.int .i64 2):=⟨_,rfl⟩
 have U:w3.grownBy w4 (some bs_):=by rw [C];exact ah (az w3 (some bs_)) (.inl rfl) _
 have J:Blk w4 bs_ 137 #[.pointer (some ⟨g,0,none⟩),.int .i64 n,.pointer (some ⟨bg,0,none⟩),.int .i64 2]:=by rw [C];have:=A.set_ 3 (.int .i64 2);simpa using this
 have a3:=hide (aa.out.setPh (ph:=2) U J);have aE:=hide (aw.out.trans (UH (S:=S2) (b2:=bg) U));have X:=J.cell 1;simp only [Jx,Q1,Q2] at X;have Q:W.heap.size≠bs_:=Z0;have o:=(World.cell?_of_block (U.block W.heap.size (block_lt_of_cell o) (fun e=>Q (Y9 e)))).trans o;have p:=(World.cell?_of_block (U.block W.heap.size (block_lt_of_cell p) (fun e=>Q (Y9 e)))).trans p;have r:=(World.cell?_of_block (U.block W.heap.size (block_lt_of_cell r) (fun e=>Q (Y9 e)))).trans r;have HE:=hide (lH (w:=w4) 52 (l:=[]) (c:=0) (OA w4 none) Z3 Z3);clear A J U hb3 G x1 F r7 HO;go_upto_region 9 with fail;rw [<-C];clear C c3 f3;go_wp2_with fail;refine HE.out.mono ?_;rintro e w5 ⟨hb5,⟨q,hq,rfl⟩ | ⟨b,ps,k,hk,rfl,_⟩⟩
 ·rw [uw] at hq
  cases hq
  have X:=aA hb5 X;have o:=aA hb5 o;have p:=aA hb5 p;have r:=aA hb5 r;have a4:=hide (a3.out.below hb5);have aF:=hide (aE.out.trans (Grown.of_below hb5));clear hb5 HE;go_upto_region 10 with fail
  go_region_held3 (fun V=>V.cell? ⟨bs_,1,none⟩=some (.int .i64 n)/\V.cell? ⟨W.heap.size,0,none⟩=some (.string u0)/\V.cell? ⟨W.heap.size,1,none⟩=some (.string u1)/\V.cell? ⟨W.heap.size,4,none⟩=some (.string u4))
   (first | exact ⟨X,o,p,r⟩ | exact ⟨rE X,rE o,rE p,rE r⟩)
   (fail)
  clear X o p r;go_wp2_with fail;go_ret3;obtain ⟨z0,z1,z4⟩:=Hu.out;have zw:=ab.out;subst z0 z1 z4 zw;refine ⟨T2,S2,_,.nilIface,rfl,⟨_,rfl,?_⟩,rfl,Hp.out.1,by have:=Hp.out.2;omega,a4.out.below ?_,aF.out.trans (Grown.of_below ?_)⟩
  ·exact Blk.new _ _ _
  ·exact ae
  ·exact ae
 ·rw [uw] at hk
  cases hk
end
section
variable {w0 W W' : World} {B g lo hi bs_ bg : Nat} {A9 A8 : Option Addr} {c9 c8 : Nat} {gr : List (List UInt8 × Int)} {al : List (List UInt8)} {lim n : Int} {sid : Option Tm} {T T' : List Tm} {S S' : Nat -> Prop} {s : SvS}
theorem zz40d (h_:p_:=by
 have Hz:=hide hz;clear hz;go_wp2_with fail;go_ret3;have hz:=Hz.out;subst hz;obtain ⟨hev,her,hp3,hl3,hM3,hG3⟩:=Hf.out;rw [HEk.out]
 exact ⟨T3,S3,ev,er,rfl,hev,her,hp3,hl3,hM3,((Grown.of_below Hbw2.out).sb _ _).trans hG3⟩):p_:=h_
theorem zz5f9 (h_:p_:=by
 go_enter func110,ntmps110;go_upto_region 1 with fail;rw [<-hW0];clear hW0;go_wp2_with fail;refine HR.out.mono ?_;rintro e w3 ⟨er,rfl,hev,_,hM3,hG3⟩;have Hf:=hide (Y4 hev (Y4 hM3 hG3));clear hev hM3 hG3;generalize hz:bs (aP lim s).2.out=z;have Hz:=hide hz;clear hz;go_wp2_with fail;go_ret3;have hz:=Hz.out;subst hz
 exact ⟨T,S,.slice none 0 0,er,rfl,by rw [jd];rfl,Hf.out.1,Yl _,by omega,Hf.out.2.1,((Grown.of_below Hb0.out).sb _ _).trans Hf.out.2.2⟩):p_:=h_
theorem zz2ad (h_:p_:=by
 have hE:gU gr al lim sid s l=bC s [nC] 3:=by
  unfold gU;rw [Y5 hc0,Y5 (fun h9=>h9 c2),Y6 (by rw [hm];exact c3)]
 rw [hE];clear c2 c3 hE hc0 HH HRf;go_enter func110,ntmps110;go_upto_region 1 with fail;rw [<-hW0];clear hW0;go_wp2_with fail;refine (HO.out _).mono ?_;rintro e w2 ⟨b,rfl,hi2,hb2⟩;have Hi:=hide (Y4 hi2 hb2);clear hi2 hb2;go_wp2_with fail;go_ret3
 exact ⟨T,S,.slice none 0 0,aK b,rfl,rfl,Hi.out.1,Yl _,by omega,HM0.out.below Hi.out.2,(Grown.of_below (Hb0.out.trans (Hi.out.2.mono Hb0.out.size))).sb _ _⟩):p_:=h_
theorem zz22e (h_:p_:=by
 go_enter func110,ntmps110;go_upto_region 1 with fail;rw [<-hW0];clear hW0;go_upto_region 9 with fail
 go_region_held3 (fun V=>V.cell? ⟨bs_,2,none⟩=some (.pointer (some ⟨bg,0,none⟩))/\V.cell? ⟨bs_,0,none⟩=some (.pointer (some ⟨g,0,none⟩))/\V.cell? ⟨W.heap.size,0,none⟩=some (.string (bs (atF l 0).s))/\V.cell? ⟨W.heap.size,4,none⟩=some (.string (bs (atF l 4).s))/\V.cell? ⟨W.heap.size,5,none⟩=some (.int .i64 nk))
  (exact ⟨x2,x0,r0,r4,r5⟩)
  (first
   | (go_at_call 189;refine (HH.out _ (by exact ae)).mono ?_;rintro e w2 ⟨rfl,hb2⟩;replace x2:=aA hb2 x2;replace x0:=aA hb2 x0;replace r0:=aA hb2 r0;replace r4:=aA hb2 r4;replace r5:=aA hb2 r5)
   | fail)
 have hbw2:=Hb0.out.trans (hb2.mono Hb0.out.size);have HR:=hide (HRf.out w2 hbw2);have Hbw2:=hide hbw2;clear x2 x0 r0 r4 r5 r2 r3 hb2 hbw2 HH HRf;go_wp2_with fail;refine HR.out.mono ?_;rintro e w3 ⟨er,rfl,hev,_,hM3,hG3⟩;have Hf:=hide (Y4 hev (Y4 hM3 hG3));clear hev hM3 hG3;generalize hz:bs (aP lim s).2.out=z;have Hz:=hide hz;clear hz;go_wp2_with fail;go_ret3;have hz:=Hz.out;subst hz
 exact ⟨T,S,.slice none 0 0,er,rfl,by rw [jd];rfl,Hf.out.1,Yl _,by omega,Hf.out.2.1,((Grown.of_below Hbw2.out).sb _ _).trans Hf.out.2.2⟩):p_:=h_
theorem UR (h:di w0 B g lo hi bs_ bg A9 c9 gr A8 c8 al lim n sid T S s W) (w:Idn T (ofT (atF l 5).s) nk) (C:Idn T (ofT (atF l 6).s) ns) (P:(atF l 0).s.length<=40000) (Q:(atF l 1).s.length<=40000) (G:(atF l 4).s.length<=40000) (I:(atF l 5).s.length<=40000) (R:T.length<=900000) (J:(s.fl:Int)<lim) (K:s.fl<=1000) (A:gr.length<=1000) (hal:al.length<=1000) (hm:l.length=6) :
  Calls prog 110 #[.pointer (some ⟨bs_,0,none⟩),.agg (gq l nk ns),.int .i64 6] W (qj w0 B g lo hi bs_ bg A9 c9 gr A8 c8 al lim n sid T S W 100 (atF l 1).s (gU gr al lim sid s l)):=by
 have hc0:¬ (l.length≠6/\l.length≠7):=Z0;have p:=hide (fun (V:World) (hb:Below W.heap.size W V)=>RJ (h.below hb) (nk:=nk) (ns:=ns) G I)
 obtain ⟨q,hW0⟩:∃q,q=W.alloc (.cells #[.string (bs (atF l 0).s),.string (bs (atF l 1).s),.string (bs (atF l 2).s),.int .i64 (atF l 3).n,.string (bs (atF l 4).s),.int .i64 nk,.string (bs (atF l 5).s),.int .i64 ns] 197):=⟨_,rfl⟩
 have u:Below W.heap.size W q:=Zs;have r:Blk q W.heap.size 197 #[.string (bs (atF l 0).s),.string (bs (atF l 1).s),.string (bs (atF l 2).s),.int .i64 (atF l 3).n,.string (bs (atF l 4).s),.int .i64 nk,.string (bs (atF l 5).s),.int .i64 ns]:=Zp;have o:=h.below u;have x0:=o.sb.cell 0;have x2:=o.sb.cell 2;have r0:=r.cell 0;have r2:=r.cell 2;have r3:=r.cell 3;have r4:=r.cell 4;have r5:=r.cell 5;simp only [Jx,Q1,Q2] at x0 x2 r0 r2 r3 r4 r5;have HM0:=hide o;have Hb0:=hide u;have v:=hide r;have HRf:=hide (fun (V:World) (hb:Below W.heap.size W V)=>nD (h.below hb) J K);have HH:=hide (fun (V:World) (hb:Below q.heap.size q V)=>(CU (o.below hb) w (atF l 0).s (atF l 4).s A hal).mono fun e w' h9=>(⟨h9.1,hb.trans (h9.2.mono hb.size)⟩:_/\Below q.heap.size q w'));have HO:=hide (fun (V:World)=>bT ⟨#[115,105,103,110,101,100]⟩ 3 Z2 V);clear h o u r w C;unfold gq
 by_cases c2:(atF l 2).s=fM
 ·have D:((bs (atF l 2).s).toList == ([112,117,98,108,105,99,107,101,121]:List UInt8))=true:=by rw [ay,c2];rfl
  by_cases c3:(atF l 3).n=0
  ·have F:((atF l 3).n != 0)=false:=by rw [c3];rfl
   cases c4:nM gr al (atF l 0).s (atF l 4).s (ofT (atF l 5).s) with
   | false =>
    have hE:gU gr al lim sid s l=aP lim s:=by
     unfold gU;rw [Y5 hc0,Y5 (fun h9=>h9 c2),Y5 (fun h9=>h9 (by rw [c3,hm];rfl)),Y6 c4]
    rw [hE];rw [c4] at HH;clear c2 c3 c4 hE hc0 HO p;exact zz22e
   | true =>
    have hE:gU gr al lim sid s l=jO lim sid s l l.length:=by
     unfold gU;rw [Y5 hc0,Y5 (fun h9=>h9 c2),Y5 (fun h9=>h9 (by rw [c3,hm];rfl)),Y5 (by rw [c4];decide)]
    rw [hE,hm];rw [c4] at HH;clear c2 c3 c4 hE hc0 HO HRf;go_enter func110,ntmps110;go_upto_region 1 with fail;rw [<-hW0];clear hW0;go_upto_region 9 with fail
    go_region_held3 (fun V=>V.cell? ⟨bs_,2,none⟩=some (.pointer (some ⟨bg,0,none⟩))/\V.cell? ⟨bs_,0,none⟩=some (.pointer (some ⟨g,0,none⟩))/\V.cell? ⟨W.heap.size,0,none⟩=some (.string (bs (atF l 0).s))/\V.cell? ⟨W.heap.size,4,none⟩=some (.string (bs (atF l 4).s))/\V.cell? ⟨W.heap.size,5,none⟩=some (.int .i64 nk))
     (exact ⟨x2,x0,r0,r4,r5⟩)
     (first
      | (go_at_call 189;refine (HH.out _ Z4).mono ?_;rintro e w2 ⟨rfl,hb2⟩;replace x2:=aA hb2 x2;replace x0:=aA hb2 x0;replace r0:=aA hb2 r0;replace r4:=aA hb2 r4;replace r5:=aA hb2 r5)
      | fail)
    have hbw2:=Hb0.out.trans (hb2.mono Hb0.out.size);have Hbw2:=hide hbw2;have j:=v.out.below hb2 v.out.lt;have L:=j.cell 1;have r2:=j.cell 2;have r3:=j.cell 3;have N:=j.cell 6;have O:=j.cell 7;simp only [Jx,Q1,Q2] at L r2 r3 N O;clear j hb2 hbw2 HH;have HEk:=hide (show jO lim sid s l 6=gF s l from by unfold jO;rw [Y6 rfl]);have HK:=hide (p.out w2 Hbw2.out);unfold gq at HK;clear p;go_wp2_with fail;refine HK.out.mono ?_;rintro e w3 ⟨T3,S3,ev,er,rfl,hev,her,hp3,hl3,hM3,hG3⟩;have Hf:=hide (Y4 hev (Y4 her (Y4 hp3 (Y4 hl3 (Y4 hM3 hG3)))));clear hev her hp3 hl3 hM3 hG3;generalize hz:bs (gF s l).2.out=z;exact zz40d
  ·have F:((atF l 3).n != 0)=true:=by rw [YG];exact c3
   exact zz2ad
 ·have D:((bs (atF l 2).s).toList == ([112,117,98,108,105,99,107,101,121]:List UInt8))=false:=by rw [ay,Y3];exact c2
  have hE:gU gr al lim sid s l=aP lim s:=by
   unfold gU;rw [Y5 hc0,Y6 c2]
  rw [hE];have HR:=hide (HRf.out q Hb0.out);clear c2 hE hc0 HH HRf HO p;exact zz5f9
theorem Ug (h:di w0 B g lo hi bs_ bg A9 c9 gr A8 c8 al lim n sid T S s W) (v:Idn T (ofT (atF l 5).s) nk) (C:Idn T (ofT (atF l 6).s) ns) (J:(atF l 0).s.length<=40000) (K:(atF l 1).s.length<=40000) (L:(atF l 4).s.length<=40000) (X:(atF l 5).s.length<=40000) (N:T.length<=900000) (F:(s.fl:Int)<lim) (I:s.fl<=1000) (G:gr.length<=1000) (hal:al.length<=1000) (hm:l.length=7) :
  Calls prog 110 #[.pointer (some ⟨bs_,0,none⟩),.agg (gq l nk ns),.int .i64 7] W (qj w0 B g lo hi bs_ bg A9 c9 gr A8 c8 al lim n sid T S W 100 (atF l 1).s (gU gr al lim sid s l)):=by
 have hc0:¬ (l.length≠6/\l.length≠7):=Z0;have q:=hide (fun (hs:Jp sid l=⟨#[]⟩) (V:World) (hb:Below W.heap.size W V)=>LY (h.below hb) v C J K L N F I (many:=7) rfl hs);have p:=hide (fun (hs:Jp sid l≠⟨#[]⟩) (V:World) (hb:Below W.heap.size W V)=>PX (h.below hb) v C J K L N F I (many:=7) rfl hs)
 obtain ⟨u,hW0⟩:∃u,u=W.alloc (.cells #[.string (bs (atF l 0).s),.string (bs (atF l 1).s),.string (bs (atF l 2).s),.int .i64 (atF l 3).n,.string (bs (atF l 4).s),.int .i64 nk,.string (bs (atF l 5).s),.int .i64 ns] 197):=⟨_,rfl⟩
 have A:Below W.heap.size W u:=Zs;have w:Blk u W.heap.size 197 #[.string (bs (atF l 0).s),.string (bs (atF l 1).s),.string (bs (atF l 2).s),.int .i64 (atF l 3).n,.string (bs (atF l 4).s),.int .i64 nk,.string (bs (atF l 5).s),.int .i64 ns]:=Zp;have r:=h.below A;have x0:=r.sb.cell 0;have x2:=r.sb.cell 2;have r0:=w.cell 0;have r2:=w.cell 2;have r3:=w.cell 3;have r4:=w.cell 4;have r5:=w.cell 5;simp only [Jx,Q1,Q2] at x0 x2 r0 r2 r3 r4 r5;have HM0:=hide r;have Hb0:=hide A;have D:=hide w;have HRf:=hide (fun (V:World) (hb:Below W.heap.size W V)=>nD (h.below hb) F I);have HH:=hide (fun (V:World) (hb:Below u.heap.size u V)=>(CU (r.below hb) v (atF l 0).s (atF l 4).s G hal).mono fun e w' h9=>(⟨h9.1,hb.trans (h9.2.mono hb.size)⟩:_/\Below u.heap.size u w'));have HO:=hide (fun (V:World)=>bT ⟨#[115,105,103,110,101,100]⟩ 3 Z2 V);clear h r A w v C;unfold gq
 by_cases c2:(atF l 2).s=fM
 ·have O:((bs (atF l 2).s).toList == ([112,117,98,108,105,99,107,101,121]:List UInt8))=true:=by rw [ay,c2];rfl
  by_cases c3:(atF l 3).n=1
  ·have P:((atF l 3).n != 1)=false:=by rw [c3];rfl
   cases c4:nM gr al (atF l 0).s (atF l 4).s (ofT (atF l 5).s) with
   | false =>
    have hE:gU gr al lim sid s l=aP lim s:=by
     unfold gU;rw [Y5 hc0,Y5 (fun h9=>h9 c2),Y5 (fun h9=>h9 (by rw [c3,hm];rfl)),Y6 c4]
    rw [hE];rw [c4] at HH;clear c2 c3 c4 hE hc0 HO q p;exact zz22e
   | true =>
    have hE:gU gr al lim sid s l=jO lim sid s l l.length:=by
     unfold gU;rw [Y5 hc0,Y5 (fun h9=>h9 c2),Y5 (fun h9=>h9 (by rw [c3,hm];rfl)),Y5 (by rw [c4];decide)]
    rw [hE,hm];rw [c4] at HH;clear c2 c3 c4 hE hc0 HO HRf;go_enter func110,ntmps110;go_upto_region 1 with fail;rw [<-hW0];clear hW0;go_upto_region 9 with fail
    go_region_held3 (fun V=>V.cell? ⟨bs_,2,none⟩=some (.pointer (some ⟨bg,0,none⟩))/\V.cell? ⟨bs_,0,none⟩=some (.pointer (some ⟨g,0,none⟩))/\V.cell? ⟨W.heap.size,0,none⟩=some (.string (bs (atF l 0).s))/\V.cell? ⟨W.heap.size,4,none⟩=some (.string (bs (atF l 4).s))/\V.cell? ⟨W.heap.size,5,none⟩=some (.int .i64 nk))
     (exact ⟨x2,x0,r0,r4,r5⟩)
     (first
      | (go_at_call 189;refine (HH.out _ Z4).mono ?_;rintro e w2 ⟨rfl,hb2⟩;replace x2:=aA hb2 x2;replace x0:=aA hb2 x0;replace r0:=aA hb2 r0;replace r4:=aA hb2 r4;replace r5:=aA hb2 r5)
      | fail)
    have hbw2:=Hb0.out.trans (hb2.mono Hb0.out.size);have Hbw2:=hide hbw2;have j:=D.out.below hb2 D.out.lt;have Q:=j.cell 1;have r2:=j.cell 2;have r3:=j.cell 3;have R:=j.cell 6;have U:=j.cell 7;simp only [Jx,Q1,Q2] at Q r2 r3 R U;clear j hb2 hbw2 HH
    by_cases o:Jp sid l=⟨#[]⟩
    ·have HEk:=hide (show jO lim sid s l 7=(⟨2,s.fl⟩,⟨[52],some (fC (ofT (atF l 5).s),(atF l 0).s,(atF l 4).s),none⟩) from by unfold jO;rw [Y5 Z2];exact Y6 o)
     have HK:=hide (q.out o w2 Hbw2.out);unfold gq at HK;clear q p o;go_wp2_with fail;refine HK.out.mono ?_;rintro e w3 ⟨T3,S3,ev,er,rfl,hev,her,hp3,hl3,hM3,hG3⟩;have Hf:=hide (Y4 hev (Y4 her (Y4 hp3 (Y4 hl3 (Y4 hM3 hG3)))));clear hev her hp3 hl3 hM3 hG3;generalize hz:bs (((⟨2,s.fl⟩,⟨[52],some (fC (ofT (atF l 5).s),(atF l 0).s,(atF l 4).s),none⟩):SvS × jZ)).2.out=z;exact zz40d
    ·have HEk:=hide (show jO lim sid s l 7=aP lim s from by unfold jO;rw [Y5 Z2];exact Y5 o)
     have HK:=hide (p.out o w2 Hbw2.out);unfold gq at HK;clear q p o;go_wp2_with fail;refine HK.out.mono ?_;rintro e w3 ⟨T3,S3,ev,er,rfl,hev,her,hp3,hl3,hM3,hG3⟩;have Hf:=hide (Y4 hev (Y4 her (Y4 hp3 (Y4 hl3 (Y4 hM3 hG3)))));clear hev her hp3 hl3 hM3 hG3;generalize hz:bs (aP lim s).2.out=z;exact zz40d
  ·have P:((atF l 3).n != 1)=true:=by rw [YG];exact c3
   exact zz2ad
 ·have O:((bs (atF l 2).s).toList == ([112,117,98,108,105,99,107,101,121]:List UInt8))=false:=by rw [ay,Y3];exact c2
  have hE:gU gr al lim sid s l=aP lim s:=by
   unfold gU;rw [Y5 hc0,Y6 c2]
  rw [hE];have HR:=hide (HRf.out u Hb0.out);clear c2 hE hc0 HH HRf HO q p;exact zz5f9
end
section
variable {w0 W W' : World} {B g lo hi bs_ bg : Nat} {A9 A8 : Option Addr} {c9 c8 : Nat} {gr : List (List UInt8 × Int)} {al : List (List UInt8)} {lim n : Int} {sid : Option Tm} {T T' : List Tm} {S S' : Nat -> Prop} {s : SvS}
theorem Gp (h:di w0 B g lo hi bs_ bg A9 c9 gr A8 c8 al lim n sid T S s W) (L:(s.fl:Int)<lim) (N:s.fl<=1000) (u:l.length≠6) (v:l.length≠7) :
  Calls prog 110 #[.pointer (some ⟨bs_,0,none⟩),.agg (gq l nk ns),.int .i64 ((l.length:Nat):Int)] W (qj w0 B g lo hi bs_ bg A9 c9 gr A8 c8 al lim n sid T S W 100 (atF l 1).s (gU gr al lim sid s l)):=by
 have r:gU gr al lim sid s l=aP lim s:=by
  unfold gU;rw [Y6 ⟨u,v⟩]
 have J:(((l.length:Nat):Int) == 6)=false:=Z6;have K:(((l.length:Nat):Int) == 7)=false:=Z6;rw [r];clear r u v;generalize ((l.length:Nat):Int)=m at J K ⊢
 obtain ⟨q,hW0⟩:∃q,q=W.alloc (.cells #[.string (bs (atF l 0).s),.string (bs (atF l 1).s),.string (bs (atF l 2).s),.int .i64 (atF l 3).n,.string (bs (atF l 4).s),.int .i64 nk,.string (bs (atF l 5).s),.int .i64 ns] 197):=⟨_,rfl⟩
 have o:Below W.heap.size W q:=Zs;have p:Blk q W.heap.size 197 #[.string (bs (atF l 0).s),.string (bs (atF l 1).s),.string (bs (atF l 2).s),.int .i64 (atF l 3).n,.string (bs (atF l 4).s),.int .i64 nk,.string (bs (atF l 5).s),.int .i64 ns]:=Zp;have j:=h.below o;have G:=j.sb.cell 0;have x2:=j.sb.cell 2;have w:=p.cell 0;have A:=p.cell 2;have C:=p.cell 3;have D:=p.cell 4;have F:=p.cell 5;simp only [Jx,Q1,Q2] at G x2 w A C D F;have I:=hide j;have Hb0:=hide o;have HR:=hide (nD j L N);clear h j o p G x2 w A C D F;unfold gq;exact zz5f9
theorem NU (h:di w0 B g lo hi bs_ bg A9 c9 gr A8 c8 al lim n sid T S s W) (o:Idn T (ofT (atF l 5).s) nk) (p:Idn T (ofT (atF l 6).s) ns) (u:(atF l 0).s.length<=40000) (v:(atF l 1).s.length<=40000) (w:(atF l 4).s.length<=40000) (z:(atF l 5).s.length<=40000) (A:T.length<=900000) (q:(s.fl:Int)<lim) (r:s.fl<=1000) (j:gr.length<=1000) (hal:al.length<=1000) :
  Calls prog 110 #[.pointer (some ⟨bs_,0,none⟩),.agg (gq l nk ns),.int .i64 ((l.length:Nat):Int)] W (qj w0 B g lo hi bs_ bg A9 c9 gr A8 c8 al lim n sid T S W 100 (atF l 1).s (gU gr al lim sid s l)):=by
 by_cases C:l.length=6
 ·have e:((l.length:Nat):Int)=6:=by omega
  rw [e];exact UR h o p u v w z A q r j hal C
 ·by_cases D:l.length=7
  ·have e:((l.length:Nat):Int)=7:=by omega
   rw [e];exact Ug h o p u v w z A q r j hal D
  ·exact Gp h q r C D
end
section
variable {w0 W W' : World} {B g lo hi bs_ bg : Nat} {A9 A8 : Option Addr} {c9 c8 : Nat} {gr : List (List UInt8 × Int)} {al : List (List UInt8)} {lim n : Int} {sid : Option Tm} {T T' : List Tm} {S S' : Nat -> Prop} {s : SvS}
theorem OH (h:di w0 B g lo hi bs_ bg A9 c9 gr A8 c8 al lim n sid T S s W) {num:Nat} (hF:ik W A l) (K:l.length<=20) (h3:s.ph=0) (hs:(atF l 0).s≠fT) :
  Calls prog 61 #[.pointer (some ⟨bs_,0,none⟩),.agg #[.int .i64 5,.slice A l.length c]] W (qj w0 B g lo hi bs_ bg A9 c9 gr A8 c8 al lim n sid T S W 15000 (atF l 1).s (bC s [fH] 13)):=by
 obtain ⟨p,hW0⟩:∃p,p=W.alloc (.cells #[.int .i64 5,.slice A l.length c] 55):=⟨_,rfl⟩
 have r:Below W.heap.size W p:=Zs;have C:Blk p W.heap.size 55 #[.int .i64 5,.slice A l.length c]:=Zp;have q:=h.below r;have F:=q.sb.cell 3;have L:=C.cell 0;have m1:=C.cell 1;simp only [Jx,Q1,Q2] at F L m1;have w:=hide q;have j:=hide r;rw [show (Value.int .i64 ((s.ph:Nat):Int))=.int .i64 0 from XX] at F;have N:(!((bs (atF l 0).s).toList == ([115,115,104,45,117,115,101,114,97,117,116,104]:List UInt8)))=true:=by rw [Bool.not_eq_true',ay,Y3];exact hs
 have D:=hide (fun (V:World) (hb:Below p.heap.size p V)=>(uH (c:=c) (hF.below (j.out.trans (hb.mono j.out.size))) K 5 0).mono fun e w' h9=>(show (∃A2 v c2,e=.returned (.agg #[.int .u8 (atF l 0).k,.int .i64 (atF l 0).n,.string (bs (atF l 0).s),.slice A2 v c2]))/\Below p.heap.size p w' from by
  obtain ⟨A2,v,c2,I,J⟩:=h9
  exact ⟨⟨A2,v,c2,I⟩,hb.trans (J.mono hb.size)⟩))
 have HO:=hide (fun (V:World)=>bT ⟨#[115,101,114,118,105,99,101]⟩ 13 Z2 V);clear h q r C h3 hs;go_enter func61,ntmps61;go_upto_region 1 with fail;rw [<-hW0];clear hW0;go_wp2_with fail;refine (D.out _ Z4).mono ?_;rintro e w2 ⟨⟨A2,v,c2,rfl⟩,o⟩;have G:=hide o;clear D;go_wp2_with fail;refine (HO.out _).mono ?_;rintro e w3 ⟨b,rfl,u,hb3⟩;have z:=hide (Y4 u (o.trans (hb3.mono o.size)));clear u hb3 o;go_wp2_with fail;go_ret3;exact ⟨T,S,.slice none 0 0,aK b,rfl,rfl,z.out.1,Yl _,Z0,w.out.below z.out.2,(Grown.of_below (j.out.trans (z.out.2.mono j.out.size))).sb _ _⟩
theorem KL (h:di w0 B g lo hi bs_ bg A9 c9 gr A8 c8 al lim n sid T S s W) {num:Nat} (hF:ik W A l) (hl:l.length<=20) (h3:s.ph=0) (hs:(atF l 0).s=fT) :
  Calls prog 61 #[.pointer (some ⟨bs_,0,none⟩),.agg #[.int .i64 5,.slice A l.length c]] W (qj w0 B g lo hi bs_ bg A9 c9 gr A8 c8 al lim n sid T S W 15000 (atF l 1).s ((⟨1,s.fl⟩,⟨mZ,none,none⟩):SvS × jZ)):=by
 obtain ⟨u,hW0⟩:∃u,u=W.alloc (.cells #[.int .i64 5,.slice A l.length c] 55):=⟨_,rfl⟩
 have w:Below W.heap.size W u:=Zs;have U:Blk u W.heap.size 55 #[.int .i64 5,.slice A l.length c]:=Zp;have v:=h.below w;have x3:=v.sb.cell 3;have m0:=U.cell 0;have m1:=U.cell 1;simp only [Jx,Q1,Q2] at x3 m0 m1;have P:=hide v;have j:=hide w;rw [show (Value.int .i64 ((s.ph:Nat):Int))=.int .i64 0 from XX] at x3;have es:(!((bs (atF l 0).s).toList == ([115,115,104,45,117,115,101,114,97,117,116,104]:List UInt8)))=false:=by rw [ay,hs];rfl
 have Y:=hide (fun (V:World) (hb:Below u.heap.size u V)=>(uH (c:=c) (hF.below (j.out.trans (hb.mono j.out.size))) hl 5 0).mono fun e w' h9=>(show (∃A2 N c2,e=.returned (.agg #[.int .u8 (atF l 0).k,.int .i64 (atF l 0).n,.string (bs (atF l 0).s),.slice A2 N c2]))/\Below u.heap.size u w' from by
  obtain ⟨A2,N,c2,e1,e2⟩:=h9
  exact ⟨⟨A2,N,c2,e1⟩,hb.trans (e2.mono hb.size)⟩))
 clear h v w U h3 hs;go_enter func61,ntmps61;go_upto_region 1 with fail;rw [<-hW0];clear hW0;go_wp2_with fail;refine (Y.out _ Z4).mono ?_;rintro e w2 ⟨⟨A2,N,c2,rfl⟩,C⟩;clear Y;have F:=hide (P.out.below C);have R:=hide (j.out.trans (C.mono j.out.size));have o:=F.out.sb;have c3:=o.cell 3;have f3:=o.frozen 3;simp only [Jx,Q1,Q2] at c3
 obtain ⟨D,p⟩:∃W4,W4=w2.setCell ⟨bs_,3,none⟩ (.int .i64 1):=⟨_,rfl⟩
 have X:w2.grownBy D (some bs_):=by rw [p];exact ah (az w2 (some bs_)) (.inl rfl) _
 have J:Blk D bs_ 137 #[.pointer (some ⟨g,0,none⟩),.int .i64 n,.pointer (some ⟨bg,0,none⟩),.int .i64 1]:=by rw [p];have:=o.set_ 3 (.int .i64 1);simpa using this
 have Q:=hide (F.out.setPh (ph:=1) X J);have O:=hide (((Grown.of_below R.out).sb bs_ bg).trans (UH (S:=S) (b2:=bg) X))
 obtain ⟨w5,r⟩:∃W5,W5=D.alloc (.cells #[.int .u8 115,.int .i64 0,.string ⟨#[115,115,104,45,117,115,101,114,97,117,116,104]⟩,.slice none 0 0] 60):=⟨_,rfl⟩
 have hb5:Below D.heap.size D w5:=by rw [r];exact aT _
 have Z:Blk w5 D.heap.size 60 #[.int .u8 115,.int .i64 0,.string (bs fT),.slice none 0 0]:=by rw [r];exact Blk.new D _ _
 have HE:=hide (lH 6 (c:=1) (OE Z Z2) (fun x hx=>by
  simp only [Ym] at hx;subst hx
  exact ⟨Z2,Z3,Z3⟩) Z3)
 have G:=hide hb5;clear o J X hb5 Z C;go_upto_region 5 with fail;rw [<-p];clear p c3 f3;go_wp2_with fail;rw [<-r];clear r;refine HE.out.mono ?_;rintro e w6 ⟨K,⟨q,hq,rfl⟩ | ⟨b,ps,k,hk,rfl,_⟩⟩
 ·rw [xw] at hq
  cases hq
  have I:=hide (G.out.trans (K.mono G.out.size));clear K;generalize L:mZ=z;have Hz:=hide L;clear L;go_wp2_with fail;go_ret3;have L:=Hz.out;subst L;exact ⟨T,S,.slice none 0 0,.nilIface,rfl,rfl,rfl,Yl _,Z0,Q.out.below I.out,O.out.trans ((Grown.of_below I.out).sb _ _)⟩
 ·rw [xw] at hk
  cases hk
theorem SY (h:di w0 B g lo hi bs_ bg A9 c9 gr A8 c8 al lim n sid T S s W) {num:Nat} (h3:s.ph=2) :
  Calls prog 61 #[.pointer (some ⟨bs_,0,none⟩),.agg #[.int .i64 50,.slice A l.length c]] W (qj w0 B g lo hi bs_ bg A9 c9 gr A8 c8 al lim n sid T S W 15000 (atF l 1).s ((s,⟨[],none,none⟩):SvS × jZ)):=by
 obtain ⟨p,hW0⟩:∃p,p=W.alloc (.cells #[.int .i64 50,.slice A l.length c] 55):=⟨_,rfl⟩
 have o:Below W.heap.size W p:=Zs;have u:Blk p W.heap.size 55 #[.int .i64 50,.slice A l.length c]:=Zp;have j:=h.below o;have v:=j.sb.cell 3;have w:=u.cell 0;have m1:=u.cell 1;simp only [Jx,Q1,Q2] at v w m1;have q:=hide j;have r:=hide o;rw [show (Value.int .i64 ((s.ph:Nat):Int))=.int .i64 2 from XX] at v;clear h j o u h3;go_enter func61,ntmps61;go_upto_region 1 with fail;rw [<-hW0];clear hW0;go_wp2_with fail;go_ret3;exact ⟨T,S,.slice none 0 0,.nilIface,rfl,rfl,rfl,Yl _,Z0,q.out,(Grown.of_below r.out).sb _ _⟩
theorem zzb7f (h_:p_:=by
 go_enter func61,ntmps61;go_upto_region 1 with fail;rw [<-hW0];clear hW0;go_wp2_with fail;go_ret3
 exact ⟨T,S,.slice none 0 0,.iface 43 (.int .i64 7),rfl,rfl,rfl,Yl _,by omega,HM0.out,(Grown.of_below Hb0.out).sb _ _⟩):p_:=h_
theorem Td (h:di w0 B g lo hi bs_ bg A9 c9 gr A8 c8 al lim n sid T S s W) {num:Nat} (w:s.ph≠0) :
  Calls prog 61 #[.pointer (some ⟨bs_,0,none⟩),.agg #[.int .i64 5,.slice A l.length c]] W (qj w0 B g lo hi bs_ bg A9 c9 gr A8 c8 al lim n sid T S W 15000 (atF l 1).s (bC s [] 7)):=by
 obtain ⟨q,hW0⟩:∃q,q=W.alloc (.cells #[.int .i64 5,.slice A l.length c] 55):=⟨_,rfl⟩
 have o:Below W.heap.size W q:=Zs;have r:Blk q W.heap.size 55 #[.int .i64 5,.slice A l.length c]:=Zp;have j:=h.below o;have u:=j.sb.cell 3;have z:=r.cell 0;have m1:=r.cell 1;simp only [Jx,Q1,Q2] at u z m1;have HM0:=hide j;have Hb0:=hide o;have v:(((s.ph:Nat):Int) == 0)=false:=Z6;clear h j o r w;generalize ((s.ph:Nat):Int)=p at u v;exact zzb7f
theorem Qd (h:di w0 B g lo hi bs_ bg A9 c9 gr A8 c8 al lim n sid T S s W) {num:Nat} (z:s.ph≠1) (C:s.ph≠2) :
  Calls prog 61 #[.pointer (some ⟨bs_,0,none⟩),.agg #[.int .i64 50,.slice A l.length c]] W (qj w0 B g lo hi bs_ bg A9 c9 gr A8 c8 al lim n sid T S W 15000 (atF l 1).s (bC s [] 7)):=by
 obtain ⟨q,hW0⟩:∃q,q=W.alloc (.cells #[.int .i64 50,.slice A l.length c] 55):=⟨_,rfl⟩
 have o:Below W.heap.size W q:=Zs;have r:Blk q W.heap.size 55 #[.int .i64 50,.slice A l.length c]:=Zp;have j:=h.below o;have u:=j.sb.cell 3;have D:=r.cell 0;have m1:=r.cell 1;simp only [Jx,Q1,Q2] at u D m1;have HM0:=hide j;have Hb0:=hide o;have v:(((s.ph:Nat):Int) == 1)=false:=Z6;have w:(((s.ph:Nat):Int) == 2)=false:=Z6;clear h j o r z C;generalize ((s.ph:Nat):Int)=p at u v w;exact zzb7f
theorem UL (h:di w0 B g lo hi bs_ bg A9 c9 gr A8 c8 al lim n sid T S s W) (v:num≠5) (w:num≠50) :
  Calls prog 61 #[.pointer (some ⟨bs_,0,none⟩),.agg #[.int .i64 ((num:Nat):Int),.slice A l.length c]] W (qj w0 B g lo hi bs_ bg A9 c9 gr A8 c8 al lim n sid T S W 15000 (atF l 1).s (bC s [] 7)):=by
 have r:(((num:Nat):Int) == 5)=false:=Z6;have u:(((num:Nat):Int) == 50)=false:=Z6;generalize ((num:Nat):Int)=m at r u ⊢
 obtain ⟨p,hW0⟩:∃p,p=W.alloc (.cells #[.int .i64 m,.slice A l.length c] 55):=⟨_,rfl⟩
 have o:Below W.heap.size W p:=Zs;have q:Blk p W.heap.size 55 #[.int .i64 m,.slice A l.length c]:=Zp;have j:=h.below o;have C:=j.sb.cell 3;have z:=q.cell 0;have m1:=q.cell 1;simp only [Jx,Q1,Q2] at C z m1;have HM0:=hide j;have Hb0:=hide o;clear h j o q v w;exact zzb7f
end
section
variable {w0 W W' : World} {B g lo hi bs_ bg : Nat} {A9 A8 : Option Addr} {c9 c8 : Nat} {gr : List (List UInt8 × Int)} {al : List (List UInt8)} {lim n : Int} {sid : Option Tm} {T T' : List Tm} {S S' : Nat -> Prop} {s : SvS}
theorem KG (h:di w0 B g lo hi bs_ bg A9 c9 gr A8 c8 al lim n sid T S s W) {num:Nat} (FK:∀S' W',Grown S W S' W'->ik W' A l) (af:l.length<=20) (p:∀i,(atF l i).s.length<=3100) (hT:T.length<=700000) (hf:(s.fl:Int)<lim) (hl:s.fl<=1000) (ad:gr.length<=1000) (hal:al.length<=1000) (h3:s.ph=1) :
  Calls prog 61 #[.pointer (some ⟨bs_,0,none⟩),.agg #[.int .i64 50,.slice A l.length c]] W (qj w0 B g lo hi bs_ bg A9 c9 gr A8 c8 al lim n sid T S W 15000 (atF l 1).s (if (atF l 1).s≠dn then bC s [fH] 13 else gU gr al lim sid s l)):=by
 generalize G:(if (atF l 1).s≠dn then bC s [fH] 13 else gU gr al lim sid s l)=o;have Hq:=hide G;clear G
 obtain ⟨W0,hW0⟩:∃W0,W0=W.alloc (.cells #[.int .i64 50,.slice A l.length c] 55):=⟨_,rfl⟩
 have w:Below W.heap.size W W0:=Zs;have hX:Blk W0 W.heap.size 55 #[.int .i64 50,.slice A l.length c]:=Zp;have u:=h.below w;have x3:=u.sb.cell 3;have m0:=hX.cell 0;have m1:=hX.cell 1;simp only [Jx,Q1,Q2] at x3 m0 m1;have aa:=hide u;have ab:=hide w;rw [show (Value.int .i64 ((s.ph:Nat):Int))=.int .i64 1 from XX] at x3;have am:=h.pay.ar.sL;have an:¬ S W.heap.size:=fun h9=>by have:=am _ h9;omega
 have ac:=hide hX;have HR:=hide (Ky u (num:=50) (c:=c) (fun S' W' hG=>FK S' W' ((Grown.of_below w).trans hG)) af (fun i=>Yg (p i) Z2) Z0);clear h u w hX h3 FK;go_enter func61,ntmps61;go_upto_region 1 with fail;rw [<-hW0];clear hW0;go_wp2_with fail;refine HR.out.mono ?_;rintro e w1 ⟨T1,S1,nk,ns,rfl,K,L,Y,X,R,J⟩;have q1:=(J.outs.blk ac.out an).cell 1;have m1:w1.cell? ⟨W.heap.size,1,none⟩=some (.slice A l.length c):=by simpa using q1
 obtain ⟨w8,I⟩:∃W8,W8=w1.alloc (.cells #[.string (bs (atF l 0).s),.string (bs (atF l 1).s),.string (bs (atF l 2).s),.int .i64 (atF l 3).n,.string (bs (atF l 4).s),.int .i64 nk,.string (bs (atF l 5).s),.int .i64 ns] 197):=⟨_,rfl⟩
 have j:Blk w8 w1.heap.size 197 (gq l nk ns):=by rw [I];exact Blk.new w1 _ _
 have z:Below w1.heap.size w1 w8:=by rw [I];exact aT _
 have m8:w8.cell? ⟨W.heap.size,1,none⟩=some (.slice A l.length c):=aA z m1;have Q:=hide (R.below z);have P:=hide (((Grown.of_below ab.out).trans J).trans (Grown.of_below z));have q:=hide (Y4 Y X);have ao:=hide (Y4 K L);have ap:=p 0;have aq:=p 1;have av:=p 4;have aw:=p 5;have aE:=p 6;have Z:=hide (NU Q.out K L Z0 Z0 Z0 Z0 Z0 hf hl ad hal);have HO:=hide (fun (V:World)=>bT ⟨#[115,101,114,118,105,99,101]⟩ 13 Z2 V);unfold gq at j;have q0:=j.cell 0;have q1:=j.cell 1;have q2:=j.cell 2;have q3:=j.cell 3;have q4:=j.cell 4;have q5:=j.cell 5;have q6:=j.cell 6;have q7:=j.cell 7;simp only [Jx,Q1,Q2] at q0 q1 q2 q3 q4 q5 q6 q7;clear R J z j Y X K L HR m1 aa;unfold gq;go_upto_region 11 with fail;rw [<-I];clear I
 by_cases O:(atF l 1).s=dn
 ·have es:(!((bs (atF l 1).s).toList == ([115,115,104,45,99,111,110,110,101,99,116,105,111,110]:List UInt8)))=false:=by rw [ay,O];rfl
  have G:=Hq.out;rw [Y5 (fun h9=>h9 O)] at G;rw [G] at Z;clear G Hq O HO;unfold gq at Z;go_wp2_with fail;refine Z.out.mono ?_;rintro e w3 ⟨T3,S3,ev,er,rfl,D,C,F,N,v,r⟩;have Hf:=hide (Y4 D (Y4 C (Y4 F (Y4 N (Y4 v r)))));clear D C F N v r;go_wp2_with fail;go_ret3;obtain ⟨D,C,F,N,v,r⟩:=Hf.out;exact ⟨T3,S3,ev,er,rfl,D,C,q.out.1.trans F,by have:=q.out.2;omega,v,(P.out.sb _ _).trans r⟩
 ·have es:(!((bs (atF l 1).s).toList == ([115,115,104,45,99,111,110,110,101,99,116,105,111,110]:List UInt8)))=true:=by rw [Bool.not_eq_true',ay,Y3];exact O
  have G:=Hq.out;rw [Y6 O] at G;subst G;clear Hq O Z;go_wp2_with fail;refine (HO.out _).mono ?_;rintro e w3 ⟨b,rfl,U,hb3⟩;have Hi:=hide (Y4 U hb3);clear U hb3;go_wp2_with fail;go_ret3;exact ⟨T1,S1,.slice none 0 0,aK b,rfl,rfl,Hi.out.1,q.out.1,by have:=q.out.2;omega,Q.out.below Hi.out.2,(P.out.trans (Grown.of_below Hi.out.2)).sb _ _⟩
end
theorem FL {lo:Nat} {w:World} {S S':Nat->Prop} (h:eT lo w A l) (j:Grown S w S' w') (r:∀i,S i->i<lo):ik w' A l :=
 h w' j.size fun p u o=>World.cell?_of_block (j.block p.block o (fun q=>by have:=r _ q;omega))
def Sd (p:List UInt8):Prop:=(∀num l,dC p=.ok num l->l.length<=20/\∀i,(atF l i).s.length<=3100)/\(fu (dC p)=none->∃num l,dC p=.ok num l)
theorem OX (gr:List (List UInt8 × Int)) (al:List (List UInt8)) (lim:Int) (sid:Option Tm) (s:SvS) (num:Nat) (l:List Fld):(jS gr al lim sid s num l).2.ev=none\/(atF l 1).s=dn:=by
 unfold jS
 split
 ·split <;> exact .inl rfl
 ·split
  ·exact .inl rfl
  ·split
   ·split
    ·exact .inl rfl
    ·rename_i h
     exact .inr (Decidable.not_not.1 h)
   ·exact .inl rfl
def EM (w:World) (o:List UInt8) (v:Value):Prop:=(o=[]->v=.slice none 0 0)/\(o≠[]->∃b,v=.slice (some ⟨b,0,none⟩) 1 1/\Blk w b 9 #[.string (bs o)])
def Bi (w0:World) (B g lo hi bs_ bg:Nat) (A9:Option Addr) (c9:Nat) (gr:List (List UInt8 × Int)) (A8:Option Addr) (c8:Nat) (al:List (List UInt8)) (lim n:Int) (sid:Option Tm) (T:List Tm) (S:Nat->Prop) (W:World) (o:SvS × jZ) (e:Ending) (w':World):Prop :=
 ∃T' S' ov ev er,e=.returned (.tuple #[ov,ev,er])/\EM w' o.2.out ov/\EvV w' n o.2.ev dn ev/\ErV w' o.2.err er/\T <+: T'/\T'.length<=T.length+15000/\di w0 B g lo hi bs_ bg A9 c9 gr A8 c8 al lim n sid T' S' o.1 w'/\Grown (SB bs_ bg S) W (SB bs_ bg S') w'
section
variable {w0 W W' : World} {B g lo hi bs_ bg : Nat} {A9 A8 : Option Addr} {c9 c8 : Nat} {gr : List (List UInt8 × Int)} {al : List (List UInt8)} {lim n : Int} {sid : Option Tm} {T T' : List Tm} {S S' : Nat -> Prop} {s : SvS}
theorem Mx (h:di w0 B g lo hi bs_ bg A9 c9 gr A8 c8 al lim n sid T S s W) (v:∀S' W',Grown S W S' W'->ik W' A l) (o:l.length<=20) (u:∀i,(atF l i).s.length<=3100) (w:T.length<=700000) (z:(s.fl:Int)<lim) (C:s.fl<=1000) (r:gr.length<=1000) (hal:al.length<=1000) :
  Calls prog 61 #[.pointer (some ⟨bs_,0,none⟩),.agg #[.int .i64 ((num:Nat):Int),.slice A l.length c]] W (qj w0 B g lo hi bs_ bg A9 c9 gr A8 c8 al lim n sid T S W 15000 (atF l 1).s (jS gr al lim sid s num l)):=by
 have hF:ik W A l:=v S W (Grown.refl _ _);unfold jS
 by_cases n5:num=5
 ·subst n5
  by_cases p0:s.ph=0
  ·rw [Y6 ⟨rfl,p0⟩]
   by_cases hs:(atF l 0).s=fT
   ·rw [Y6 hs]
    exact KL h (num:=0) hF o p0 hs
   ·rw [Y5 hs]
    exact OH h (num:=0) hF o p0 hs
  ·rw [Y5 (fun h9=>p0 h9.2),Y5 (fun h9=>absurd h9.1 Z2),Y5 (fun h9=>absurd h9.1 Z2)]
   exact Td h (num:=0) p0
 ·rw [Y5 (fun h9=>n5 h9.1)]
  by_cases j:num=50
  ·subst j
   by_cases q:s.ph=2
   ·rw [Y6 ⟨rfl,q⟩]
    exact SY h (num:=0) q
   ·rw [Y5 (fun h9=>q h9.2)]
    by_cases p:s.ph=1
    ·rw [Y6 ⟨rfl,p⟩]
     exact KG h (num:=0) v o u w z C r hal p
    ·rw [Y5 (fun h9=>p h9.2)]
     exact Qd h (num:=0) p q
  ·rw [Y5 (fun h9=>j h9.1),Y5 (fun h9=>j h9.1)]
   exact UL h n5 j
theorem ow (h:di w0 B g lo hi bs_ bg A9 c9 gr A8 c8 al lim n sid T S s W) (pl:ByteArray) (h3:s.ph=3):Calls prog 21 #[.pointer (some ⟨bs_,0,none⟩),.string pl] W (Bi w0 B g lo hi bs_ bg A9 c9 gr A8 c8 al lim n sid T S W (dS gr al lim sid s pl.data.toList)):=by
 generalize v:dS gr al lim sid s pl.data.toList=o;have r:o=(⟨3,s.fl⟩,⟨[],none,some ([bZ],7)⟩):=by rw [<-v];unfold dS;rw [Y6 h3];rfl
 have w:=h.sb.cell 3;simp only [Jx,Q1,Q2] at w;rw [show (Value.int .i64 ((s.ph:Nat):Int))=.int .i64 3 from XX] at w;have z:=hide (sD h (er:=.iface 43 (.int .i64 7)) (ps:=[]) (k:=7) rfl);have A:=hide r;clear h h3 v r;go_enter func21,ntmps21;go_wp2_with fail;refine z.out.mono ?_;rintro e w3 ⟨b,rfl,q,p,j⟩;have u:=hide (Y4 q (Y4 p j));clear q p j;go_wp2_with fail;go_ret3;have r:=A.out;subst r;exact ⟨T,S,.slice none 0 0,.slice none 0 0,aK b,rfl,⟨fun _=>rfl,fun h9=>absurd rfl h9⟩,rfl,u.out.1,Yl _,Z0,u.out.2.1,u.out.2.2⟩
end
theorem aZ.shape {w:World} (h:aZ w v ps k):∃t u,v=.iface t u:=by
 cases ps with
 | nil=>exact ⟨_,_,h⟩
 | cons a r =>
  obtain ⟨b,v',e,_⟩:=h;exact ⟨_,_,e⟩
theorem EvV.below {w:World} {n:Int} (h:EvV w n o sv v) (p:Below w.heap.size w w'):EvV w' n o sv v:=by
 cases o with
 | none=>exact h
 | some x =>
  obtain ⟨b,e,j⟩:=h;exact ⟨b,e,j.below p j.lt⟩
theorem EvV.sv_ {w:World} {n:Int} {j:List UInt8} (h:EvV w n o sv v) (hs:o=none\/sv=j):EvV w n o j v:=by
 rcases hs with e | e
 ·subst e
  exact h
 ·subst e
  exact h
section
variable {w0 W W' : World} {B g lo hi bs_ bg : Nat} {A9 A8 : Option Addr} {c9 c8 : Nat} {gr : List (List UInt8 × Int)} {al : List (List UInt8)} {lim n : Int} {sid : Option Tm} {T T' : List Tm} {S S' : Nat -> Prop} {s : SvS}
theorem OU (h:di w0 B g lo hi bs_ bg A9 c9 gr A8 c8 al lim n sid T S s W) (pl:ByteArray) (J:pl.size<=1000000) (N:s.ph≠3) {k:Nat} (q:fu (dC pl.data.toList)=some (ps,k)):Calls prog 21 #[.pointer (some ⟨bs_,0,none⟩),.string pl] W (Bi w0 B g lo hi bs_ bg A9 c9 gr A8 c8 al lim n sid T S W (dS gr al lim sid s pl.data.toList)):=by
 generalize O:dS gr al lim sid s pl.data.toList=o
 have G:o=(⟨3,s.fl⟩,⟨[],none,some (bZ :: ps,(k:Int))⟩):=by
  rw [<-O];unfold dS;rw [Y5 N]
  cases hd:dC pl.data.toList with
  | ok num l=>rw [hd] at q;cases q
  | all e=>rw [hd] at q;simp only;rw [q];rfl
  | bad num R=>rw [hd] at q;simp only;rw [q];rfl
 have P:=h.sb.cell 3;simp only [Jx,Q1,Q2] at P;have e3:(((s.ph:Nat):Int) == 3)=false:=Z6;generalize ((s.ph:Nat):Int)=p at P e3;have K:=hide (um pl J h.pay.max.maxL);have U:=hide h;have X:=hide G;have L:=hide q;clear h N O G q;go_enter func21,ntmps21;go_wp2_with fail;refine K.out.mono ?_;rintro e w1 ⟨r,⟨num,l,A,c,hd,rfl,hF⟩ | ⟨b,aa,k',F,rfl,C⟩⟩
 ·have q:=L.out
  rw [hd] at q;cases q
 ·rw [L.out] at F
  cases F
  obtain ⟨w2,v⟩:∃Y,Y=w1.alloc (.cells #[.int .i64 0,.slice none 0 0] 55):=⟨_,rfl⟩
  have u:Below w1.heap.size w1 w2:=by rw [v];exact aT _
  have j:=r.trans (u.mono r.size);have Q:=hide (sD (U.out.below j) (er:=.iface 168 (.pointer (some ⟨b,0,none⟩))) (ps:=ps) (k:=(k:Int)) (C.below u));have V:=hide j;clear r u j C K;unfold aK;go_upto_region 6 with fail;rw [<-v];clear v;go_wp2_with fail;refine Q.out.mono ?_;rintro e w4 ⟨Z,rfl,D,z,w⟩;have I:=hide (Y4 D (Y4 z w));clear D z w;go_wp2_with fail;go_ret3;have G:=X.out;subst G;exact ⟨T,S,.slice none 0 0,.slice none 0 0,aK Z,rfl,⟨fun _=>rfl,fun h9=>absurd rfl h9⟩,rfl,I.out.1,Yl _,Z0,I.out.2.1,((Grown.of_below V.out).sb _ _).trans I.out.2.2⟩
theorem KU (h:di w0 B g lo hi bs_ bg A9 c9 gr A8 c8 al lim n sid T S s W) (pl:ByteArray) (ao:pl.size<=1000000) (hT:T.length<=700000) (hf:(s.fl:Int)<lim) (hl:s.fl<=1000) (am:gr.length<=1000) (hal:al.length<=1000) (h3:s.ph≠3) (hd:dC pl.data.toList=.ok num l) (an:l.length<=20) (ac:∀i,(atF l i).s.length<=3100):Calls prog 21 #[.pointer (some ⟨bs_,0,none⟩),.string pl] W (Bi w0 B g lo hi bs_ bg A9 c9 gr A8 c8 al lim n sid T S W (dS gr al lim sid s pl.data.toList)):=by
 generalize hq:dS gr al lim sid s pl.data.toList=o
 have C:o=aU (jS gr al lim sid s num l):=by
  rw [<-hq];unfold dS;rw [Y5 h3,hd]
 have x3:=h.sb.cell 3;simp only [Jx,Q1,Q2] at x3;have e3:(((s.ph:Nat):Int) == 3)=false:=Z6;generalize ((s.ph:Nat):Int)=p at x3 e3;have HD:=hide (um pl ao h.pay.max.maxL);have ab:=h.pay.ar.sL;have HM:=hide h;have HS:=hide (fun (V:World) (hM:di w0 B g lo hi bs_ bg A9 c9 gr A8 c8 al lim n sid T S s V) {A:Option Addr} {c:Nat} (FK:∀S' W',Grown S V S' W'->ik W' A l)=>Mx hM (num:=num) (c:=c) FK an ac hT hf hl am hal);have K:=OX gr al lim sid s num l;generalize jS gr al lim sid s num l=r at C HS K;have Ho:=hide C;have Hd:=hide hd;have af:=hide K;have ad:=hide ab;clear h h3 hq C hd K ab ac;go_enter func21,ntmps21;go_wp2_with fail;refine HD.out.mono ?_;rintro e w1 ⟨I,⟨ap,l',A,c,hd,rfl,hF⟩ | ⟨b,aw,k',Y,rfl,av⟩⟩
 ·rw [Hd.out] at hd
  cases hd
  obtain ⟨w2,v⟩:∃W2,W2=w1.alloc (.cells #[.int .i64 ((num:Nat):Int),.slice A l.length c] 55):=⟨_,rfl⟩
  have J:Below w1.heap.size w1 w2:=by rw [v];exact aT _
  have G:Blk w2 w1.heap.size 55 #[.int .i64 ((num:Nat):Int),.slice A l.length c]:=by rw [v];exact Blk.new w1 _ _
  have j:=I.trans (J.mono I.size);have HK:=hide (HS.out w2 (HM.out.below j) (c:=c) (fun S' W' hG=>FL (hF.below J) hG (fun i hi=>ad.out i hi)));have m0:=G.cell 0;have m1:=G.cell 1;simp only [Jx,Q1,Q2] at m0 m1;have Hb:=hide j;clear I J j HD HS hF G;generalize ((num:Nat):Int)=m at v m0 HK ⊢;go_upto_region 6 with fail;rw [<-v];clear v;go_wp2_with fail;refine HK.out.mono ?_;rintro e w3 ⟨T3,S3,ev,er,rfl,w,u,aa,Z,Q,O⟩;have w:=w.sv_ af.out;have D:=hide (((Grown.of_below Hb.out).sb bs_ bg).trans O);have L:=hide (Y4 aa Z);have F:=hide Q;have N:=hide w;clear aa Z Q O w HK;obtain ⟨s1,out,aq,err⟩:=r
  cases err with
  | some x =>
   obtain ⟨ps,k⟩:=x;have HA:=hide (sD F.out u);obtain ⟨te,ue,rfl⟩:=aZ.shape u;clear u;simp only;go_wp2_with fail;refine HA.out.mono ?_;rintro e w4 ⟨b9,rfl,X,R,P⟩;have Hf:=hide (Y4 X (Y4 R P));clear X R P;go_wp2_with fail;go_ret3;have C:=Ho.out;subst C;exact ⟨T3,S3,.slice none 0 0,.slice none 0 0,aK b9,rfl,⟨fun _=>rfl,fun h9=>absurd rfl h9⟩,rfl,Hf.out.1,L.out.1,L.out.2,Hf.out.2.1,D.out.trans Hf.out.2.2⟩
  | none =>
   have U:er=.nilIface:=u;subst U;clear u;simp only
   cases out with
   | nil =>
    have eo:((bs ([]:List UInt8)).toList == ([]:List UInt8))=true:=XT;go_wp2_with fail;go_ret3;have C:=Ho.out;subst C;exact ⟨T3,S3,.slice none 0 0,ev,.nilIface,rfl,⟨fun _=>rfl,fun h9=>absurd rfl h9⟩,N.out,rfl,L.out.1,L.out.2,F.out,D.out⟩
   | cons a q =>
    have eo:((bs (a :: q)).toList == ([]:List UInt8))=false:=XT;generalize hz:bs (a :: q)=z at eo ⊢;have Hz:=hide hz;clear hz;go_wp2_with fail;go_ret3;have C:=Ho.out;have hz:=Hz.out;subst C hz;exact ⟨T3,S3,_,ev,.nilIface,rfl,⟨(fun h9=>YP),fun _=>⟨_,rfl,Blk.new _ _ _⟩⟩,N.out.below (aT _),rfl,L.out.1,L.out.2,F.out.below (aT _),D.out.trans ((Grown.of_below (aT _)).sb _ _)⟩
 ·have hd:=Hd.out
  rw [hd] at Y;cases Y
theorem xN (h:di w0 B g lo hi bs_ bg A9 c9 gr A8 c8 al lim n sid T S s W) (pl:ByteArray) (j:pl.size<=1000000) (u:T.length<=700000) (v:(s.fl:Int)<lim) (w:s.fl<=1000) (q:gr.length<=1000) (hal:al.length<=1000) (p:Sd pl.data.toList):Calls prog 21 #[.pointer (some ⟨bs_,0,none⟩),.string pl] W (Bi w0 B g lo hi bs_ bg A9 c9 gr A8 c8 al lim n sid T S W (dS gr al lim sid s pl.data.toList)):=by
 by_cases o:s.ph=3
 ·exact ow h pl o
 ·cases r:fu (dC pl.data.toList) with
  | some x=>exact OU h pl j o (ps:=x.1) (k:=x.2) r
  | none =>
   obtain ⟨num,l,hd⟩:=p.2 r;exact KU h pl j u v w q hal o hd (p.1 num l hd).1 (p.1 num l hd).2
end
section
variable {w : World}
theorem Ox (pl:ByteArray) (W:World):Calls prog 21 #[.pointer none,.string pl] W (fun e w'=>∃b,e=.returned (.tuple #[.slice none 0 0,.slice none 0 0,aK b])/\aZ w' (aK b) [bZ] 7/\Below W.heap.size W w'):=by
 have HO:=hide (bT ⟨#[97,117,116,104,115]⟩ 7 Z2 W);go_enter func21,ntmps21;go_wp2_with fail;refine HO.out.mono ?_;rintro e w1 ⟨b,rfl,h,g⟩;have j:=hide (Y4 h g);clear h g HO;go_wp2_with fail;go_ret3;exact ⟨b,rfl,j.out.1,j.out.2⟩
def Vn (gr:List (List UInt8 × Int)) (al:List (List UInt8)) (lim:Int) (w:World) (e:Ending) (w':World):Prop :=
 ∃b A9 c9 A8 c8,e=.returned (.tuple #[.pointer (some ⟨b,0,none⟩),.nilIface])/\Below w.heap.size w w'/\w.heap.size<=b/\Blk w' b 201 #[.slice A9 gr.length c9,.slice A8 al.length c8,.int .i64 lim,.int .i64 0] /\
  w'.ownsRow w.heap.size 158 2 (.slice A9 gr.length c9) gr.length (jQ gr)/\w'.ownsRow w.heap.size 9 1 (.slice A8 al.length c8) al.length ((bss al).map Value.string)
theorem Su {B:Option Addr} {d:Nat} {gs:List (List UInt8 × Int)} {al:List (List UInt8)} {lim:Int} (h:GrC w A gs) (L:gs.length<=1000000) (O:∀g∈gs,g.1.length<=1000000)
  (D:Txs w (.slice B al.length d) al) (F:al.length<=d) (C:al.length<=1000000) (G:∀y∈al,y.length<=1000000) (K:aS gs al lim=none) :
  Calls prog 104 #[.slice A gs.length c,.slice B al.length d,.int .i64 lim] w (Vn gs al lim w):=by
 have v:=xc (c:=c) (lim:=lim) h L O D F C G;rw [K] at v;have v:=hide (oH v);have I:=hide (fun (V:World) (hb:Below w.heap.size w V)=>Om (c:=c) (h.below hb).reads (KP gs) L);have J:=hide (fun (V:World) (hb:Below w.heap.size w V)=>zz (ss:=al.map bs) (D.below hb) (by rw [Yd];exact Yg C Z2));clear h D K;go_enter func104,ntmps104;go_wp2_with fail;refine v.out.mono ?_;rintro e w1 ⟨rfl,r⟩;go_wp2_with fail;refine (I.out _ r).mono ?_;rintro e w2 ⟨Q,rfl,q,z⟩;obtain ⟨A9,c9,rfl⟩:=ed q;have o:=r.trans (z.mono r.size);go_wp2_with fail;refine (J.out _ o).mono ?_;rintro e w3 ⟨P,rfl,p,hb3⟩;obtain ⟨A8,c8,rfl⟩:=ed p;have j:=o.trans (hb3.mono o.size);rw [Yd] at p;rw [Yd];have q:=iZ (q.kept (ag hb3 none) Xo) r.size;have p:=iZ p o.size;have N:=hide (Y4 j (Y4 q p));clear r z hb3 o j q p v I J;go_wp2_with fail;go_ret2;obtain ⟨j,q,p⟩:=N.out;have u:=aT (w:=w3) (.cells #[.slice A9 gs.length c9,.slice A8 al.length c8,.int .i64 lim,.int .i64 0] 201);exact ⟨w3.heap.size,A9,c9,A8,c8,rfl,j.trans (u.mono j.size),j.size,Blk.new w3 _ _,q.kept (ag u none) Xo,p.kept (ag u none) Xn⟩
end
theorem Dr:∀(l:List il),dQ l=none->∀o∈l,o=none
 | [],_,_,h=>by cases h
 | none :: r,h,o,ho=>by
  rcases Yz.1 ho with rfl | j
  ·rfl
  ·exact Dr r h o j
 | some _ :: _,h,_,_=>by cases h
theorem CfP.deny {c:CfP} (h:c.err=none) (hs:c.sv=true):aS c.gr c.al c.lim=none:=by
 unfold CfP.err OB at h;rw [Y6 hs] at h;have j:=Dr _ (N8 h) (bQ (aS c.gr c.al c.lim)) Z3
 cases hd:aS c.gr c.al c.lim with
 | none=>rfl
 | some x=>rw [hd] at j;cases j
theorem M0 {gr:List (List UInt8 × Int)} {al:List (List UInt8)} {lim:Int} (h:aS gr al lim=none):1<=lim/\lim<=20:=by
 unfold aS at h
 split at h
 ·cases h
 ·split at h
  ·cases h
  ·split at h
   ·cases h
   ·omega
section
variable {w0 w : World} {B g : Nat} {n : Int} {sid : Option Tm} {T : List Tm} {S : Nat -> Prop}
theorem MR (c:CfP) {C:Array Value} (o:CvP c C) (G:gL w) (I:iW w) (h:c.M w) (L:Value) (n:Int) (he:c.err=some (ps,k)) :
  Calls prog 57 #[L,.agg C,.int .i64 n] w (fun e w'=>∃b,e=.returned (.tuple #[.pointer none,aK b])/\aZ w' (aK b) (bZ :: ps) k/\Below w.heap.size w w'):=by
 obtain ⟨A,hW0⟩:∃A,A=w.alloc (.cells C 30):=⟨_,rfl⟩
 have j:Below w.heap.size w A:=Zs;have J:Blk A w.heap.size 30 C:=Zk;have p:=c.check (G.below j) (I.below j) (h.below j);rw [he,o.val] at p;have K:=o.len;have p:=hide (y8 p);have z:=hide (fun (V:World) (b:Nat) (hi:aZ V (aK b) ps k)=>II ⟨#[97,117,116,104,115]⟩ hi);have q:=hide j;clear G I h he o j;go_enter func57,ntmps57;go_upto_region 1 with fail;rw [<-hW0];clear hW0;refine wp_region_lit ?_;refine aR rfl (.tmp 4) rfl Z5 J K ?_
 try simp only [Act.put,J0,JT,Y0]
 refine gX (f:=81) rfl Zn p.out ?_;rintro e w1 ⟨b,rfl,v,r⟩;refine ⟨_,rfl,?_⟩
 try simp only [Act.put,J0,JT,Y0]
 have z:=hide (z.out _ _ v);have D:=hide (q.out.trans (r.mono q.out.size));clear v r p J K;unfold aK at z ⊢;go_wp2_with fail;refine z.out.mono ?_;rintro e w2 ⟨b2,rfl,hi2,u⟩;have F:=hide (Y4 hi2 (D.out.trans (u.mono D.out.size)));clear hi2 u;go_wp2_with fail;go_ret2;exact ⟨b2,rfl,F.out.1,F.out.2⟩
theorem zzcf0 (h_:p_:=by
 have Hi:=hide (Y4 hi2 (Hb.out.trans (hb2.mono Hb.out.size)));clear hi2 hb2;unfold aK at Hi ⊢;go_wp2_with fail;go_ret2
 exact ⟨b2,rfl,Hi.out.1,Hi.out.2⟩):p_:=h_
theorem MF (c:CfP) {z:Array Value} (o:CvP c z) (D:gL w) (F:iW w) (h:c.M w) (C:Ar B w g T S) (u:Idn T sid n) (he:c.err=none) (hs:c.sv=false\/sid=none) :
  Calls prog 57 #[.pointer (some ⟨g,0,none⟩),.agg z,.int .i64 n] w (fun e w'=>∃b,e=.returned (.tuple #[.pointer none,aK b])/\aZ w' (aK b) [bZ] 1/\Below w.heap.size w w'):=by
 obtain ⟨v,hW0⟩:∃v,v=w.alloc (.cells z 30):=⟨_,rfl⟩
 have j:Below w.heap.size w v:=Zs;have A:Blk v w.heap.size 30 z:=Zk;have q:=c.check (D.below j) (F.below j) (h.below j);rw [he,o.val] at q;have G:=o.len;have q:=hide (oH q);have HO:=hide (fun (V:World)=>bT ⟨#[97,117,116,104,115]⟩ 1 Z2 V);have HK:=hide (fun (V:World) (hb:Below w.heap.size w V)=>zb (C.below hb) n);rw [u.1] at HK;have p0:=o.p0;generalize c.sv=sv at p0 hs;clear D F h he o C u;go_enter func57,ntmps57;go_upto_region 1 with fail;rw [<-hW0];clear hW0;refine wp_region_lit ?_;refine aR rfl (.tmp 4) rfl Z5 A G ?_
 try simp only [Act.put,J0,JT,Y0]
 refine gX (f:=81) rfl Zn q.out ?_;rintro e w1 ⟨rfl,p⟩;refine ⟨_,rfl,?_⟩
 try simp only [Act.put,J0,JT,Y0]
 have r:=A.below p A.lt;have Hb:=hide (j.trans (p.mono j.size));have J:=(r.cell 0).trans p0;clear r A G p0 j p q
 cases sv with
 | false =>
  go_wp2_with fail;refine (HO.out _).mono ?_;rintro e w2 ⟨b2,rfl,hi2,hb2⟩;exact zzcf0
 | true =>
  have I:sid=none:=hs.resolve_left Z2;subst I;simp only at HK;go_wp2_with fail;refine (HK.out _ Hb.out).mono ?_;rintro e w2 ⟨rfl,rfl⟩;go_wp2_with fail;refine (HO.out _).mono ?_;rintro e w3 ⟨b2,rfl,hi2,hb2⟩;exact zzcf0
def V3 (w0:World) (B g:Nat) (gr:List (List UInt8 × Int)) (al:List (List UInt8)) (lim n:Int) (sid:Option Tm) (T:List Tm) (S:Nat->Prop) (w:World) (e:Ending) (w':World):Prop :=
 ∃bs_ bg hi A9 c9 A8 c8,e=.returned (.tuple #[.pointer (some ⟨bs_,0,none⟩),.nilIface])/\di w0 B g w.heap.size hi bs_ bg A9 c9 gr A8 c8 al lim n sid T S ⟨0,0⟩ w'/\Below w.heap.size w w'
theorem QR (c:CfP) {L:Array Value} (j:CvP c L) (Z:gL w) (hW:iW w) (h:c.M w) (O:Pay w0 B g T S w) (A:Idn T sid n) (he:c.err=none) (hs:c.sv=true) {t:Tm} (ht:sid=some t) (hk:t.k≠0) :
  Calls prog 57 #[.pointer (some ⟨g,0,none⟩),.agg L,.int .i64 n] w (V3 w0 B g c.gr c.al c.lim n sid T S w):=by
 obtain ⟨K,hW0⟩:∃K,K=w.alloc (.cells L 30):=⟨_,rfl⟩
 have p:Below w.heap.size w K:=Zs;have N:Blk K w.heap.size 30 L:=Zk;have D:=c.check (Z.below p) (hW.below p) (h.below p);rw [he,j.val] at D;have hl:=j.len;have D:=hide (oH D);have HK:=hide (fun (V:World) (hb:Below w.heap.size w V)=>zb (O.ar.below hb) n);rw [A.1,ht] at HK;simp only at HK;have P:(((t.k:Nat):Int) == 0)=false:=Z6;generalize ((t.k:Nat):Int)=kd at HK P;have X:=hide (fun (V:World) (hb:Below w.heap.size w V)=>Su (w:=V) (c:=c.c9) (d:=c.c8) ((h.below hb).hgr) h.grl h.gry ((h.below hb).hal) h.alc h.all h.aly (c.deny he hs));have p0:=j.p0;have p11:=j.p11;have p13:=j.p13;have p14:=j.p14;rw [hs] at p0;have J:=hide (Y4 O A);clear Z hW h he j O A hs ht hk;go_enter func57,ntmps57;go_upto_region 1 with fail;rw [<-hW0];clear hW0;refine wp_region_lit ?_;refine aR rfl (.tmp 4) rfl Z5 N hl ?_
 try simp only [Act.put,J0,JT,Y0]
 refine gX (f:=81) rfl Zn D.out ?_;rintro e w1 ⟨rfl,z⟩;refine ⟨_,rfl,?_⟩
 try simp only [Act.put,J0,JT,Y0]
 have q:=N.below z N.lt;have F:=hide (p.trans (z.mono p.size));have x0:=(q.cell 0).trans p0;have Q:=(q.cell 11).trans p11;have R:=(q.cell 13).trans p13;have U:=(q.cell 14).trans p14;clear q N hl p0 p11 p13 p14 p z D;go_wp2_with fail;refine (HK.out _ F.out).mono ?_;rintro e w2 ⟨rfl,rfl⟩;clear HK;go_wp2_with fail;refine (X.out _ F.out).mono ?_;rintro e w3 ⟨Y,A9,c9,A8,c8,rfl,hb3,C,o,v,u⟩;have Hf:=hide (Y4 (F.out.trans (hb3.mono F.out.size)) (Y4 C (Y4 o (Y4 v u))));clear hb3 C o v u X x0 Q R U;go_wp2_with fail;go_ret2;obtain ⟨hb3,C,o,v,u⟩:=Hf.out;have r:=aT (w:=w3) (.cells #[.pointer (some ⟨g,0,none⟩),.int .i64 n,.pointer (some ⟨Y,0,none⟩),.int .i64 0] 137);have G:=hb3.trans (r.mono hb3.size);have I:=F.out.size;have ab:=r.size;have aa:=o.lt;refine ⟨w3.heap.size,Y,w3.heap.size+1,A9,c9,A8,c8,rfl,?_,G⟩;refine ⟨J.out.1.below G,fun i hi=>.inl (J.out.1.ar.sL i hi),Z3,J.out.1.use.base,Z0,Z0,Z0,Z0,Z0,Blk.new w3 _ _,o.below r o.lt,?_,?_,fun i hi=>?_,fun i hi=>?_,J.out.2⟩
 ·exact iZ (v.kept (ag r none) (by cases (Value.slice A9 c.gr.length c9).ownBlock <;> simp)) I
 ·exact iZ (u.kept (ag r none) (by cases (Value.slice A8 c.al.length c8).ownBlock <;> simp)) I
 ·have:=(v.lt i hi).2
  omega
 ·have:=(u.lt i hi).2
  omega
end
section
variable {w : World}
theorem wM (s:ByteArray) (w:World):Calls prog 20 #[.nilIface,.agg #[.int .i64 0,.string s]] w (fun e w'=>e=.returned (.bool true)/\Below w.heap.size w w'):=by
 go_enter func20,ntmps20;go_wp2_with fail;go_ret;exact ⟨rfl,Z4⟩
theorem pY {b:Nat} (r:k≠0) (o:ps.length<=20) (g:∀p∈ps,p.length<=1000) (h:aZ w (aK b) ps k) (q:Hand w) :
  Calls prog 20 #[aK b,.agg #[.int .i64 k,.string (bs (atL ps))]] w (fun e w'=>e=.returned (.bool true)/\Below w.heap.size w w'):=by
 have v:(k == 0)=false:=by rw [Y3];exact r
 have j:=hide (fun (W:World) (hb:Below w.heap.size w W)=>NE b o g (h.below hb) (q.below hb));generalize bs (atL ps)=x at j ⊢;unfold aK at j ⊢;clear h q r g;go_enter func20,ntmps20;go_wp2_with fail;refine (j.out _ Z4).mono ?_;rintro e w1 ⟨rfl,u⟩;go_wp2_with fail;go_ret;exact ⟨rfl,Z4⟩
theorem xW {o:il} {er:Value} (z:lW 20 o) (h:ErV w o er) (g:∀k,er≠.iface 43 (.int .i64 k)) (v:Hand w) :
  Calls prog 20 #[er,.agg #[.int .i64 (qx o),.string (bs (uB o))]] w (fun e w'=>e=.returned (.bool true)/\Below w.heap.size w w'):=by
 cases o with
 | none =>
  have e:er=.nilIface:=h;subst e;exact wM _ w
 | some x =>
  obtain ⟨ps,k⟩:=x;obtain ⟨p,q,u⟩:=z ps k rfl
  cases ps with
  | nil=>exact absurd h (g k)
  | cons a r =>
   have j:aZ w er (a :: r) k:=h;obtain ⟨b,v',rfl,A⟩:=j;exact pY p q u ⟨b,v',rfl,A⟩ v
theorem Ey {o:List UInt8} (h:EM w o v):Calls prog 25 #[v,.string (bs o)] w (fun e w'=>e=.returned (.bool true)/\Below w.heap.size w w'):=by
 by_cases g:o=[]
 ·rw [h.1 g,g]
  have j:((bs ([]:List UInt8)).toList == ([]:List UInt8))=true:=XT;generalize bs ([]:List UInt8)=x at j ⊢;clear h g;go_enter func25,ntmps25;go_wp2_with fail;go_ret;exact ⟨rfl,Z4⟩
 ·obtain ⟨b,rfl,p⟩:=h.2 g
  have c0:=p.cell 0;simp only [Jx,Q1] at c0;have j:((bs o).toList == ([]:List UInt8))=false:=by rw [ay,Y3];exact g
  have q:((bs o).toList == (bs o).toList)=true:=beq_self_eq_true _;generalize bs o=x at c0 j q ⊢;clear h g p;go_enter func25,ntmps25;go_wp2_with fail;go_ret;exact ⟨rfl,Z4⟩
end
end Go.Proofs.YtnhekaepgpbijaaGreatDoor
