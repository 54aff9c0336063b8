/- Several of my texts in one: AcQ, AcA, AcY, AcE, AcV, AcT. -/
import Derived.Test.YtnhekaepgpbijaaGreatDoorJAuApG
import Derived.Test.YtnhekaepgpbijaaGreatDoorJAcMG
import Derived.Deep.RegionHeld3
import Derived.Test.YtnhekaepgpbijaaGreatDoorJCfBG
import Derived.Test.YtnhekaepgpbijaaGreatDoorJFlNG
set_option linter.unusedVariables false
set_option linter.unusedSimpArgs false
set_option maxHeartbeats 40000000
set_option maxRecDepth 100000
namespace Go.Proofs.YtnhekaepgpbijaaGreatDoor
open Go.RowKit Go.ChangeShapes Go.WideShapes Go.Sort
section
variable {q : ClQ} {T T' : List Tm} {S S' : Nat → Prop} {s : bS} {z : TkP} {W W' : World}
theorem jm (h:aI q T S s z W) (h1:1≤s.tried):Calls Tryz.prog 132 #[.pointer (some ⟨q.b,0,none⟩)] W (fun e w'=>e=.returned (.int .i64 (bT q.ky (s.tried - 1)))∧Below W.heap.size W w'):=by
 obtain ⟨k,hk⟩:∃k,s.tried=k+1:=⟨s.tried - 1,by omega⟩
 have c18:=h.c18;have c28:=h.c28;have hlt:k<q.ky.length:=by have:=h.try_;omega
 have hky:=h.ok.ky2;obtain ⟨ad,u,hA,_,hb,hu,hc⟩:=h.keys.at_ hlt
 have hu2:u=.int .i64 q.ky[k]:=by
  rw [List.getElem?_map,List.getElem?_eq_getElem hlt] at hu;exact (Option.some.inj hu).symm
 have hK:bT q.ky (s.tried - 1)=q.ky[k]:=by unfold bT;rw [hk,Nat.add_sub_cancel,List.getElem?_eq_getElem hlt];rfl
 have em:((s.tried:Nat):Int)=(k:Int)+1:=by omega
 have hw:IntKind.i64.wrap ((k:Int)+1 - 1)=(k:Int):=by rw [IntKind.wrap_i64];omega
 have hkI:(k:Int)<q.ky.length:=by omega
 rw [hK];rw [hA] at c18;rw [em] at c28;subst hu2;generalize q.ky[k]=kv at hc ⊢;generalize q.ky.length=kn at c18 hkI hky;clear h hk hu hA hK em h1 hlt;go_enter Tryz.func132,Tryz.ntmps132;go_upto_region 1 with fail;go_quiet (fail);go_wp2_with fail;go_ret;exact ⟨rfl,by exact aa⟩
theorem J4 (h:aI q T S s z W) (ht:s.told=false):Calls Tryz.prog 208 #[.pointer (some ⟨q.b,0,none⟩)] W (fun e w'=>e=.returned (.tuple #[.string (bs ((jr q.al s).getD [])),.bool (jr q.al s).isSome])∧Below W.heap.size W w'):=by
 have c12:=h.c12;have c26:=h.c26;rw [ht] at c26;have hal:=h.ok.al1;have hal2:=h.ok.al2;obtain ⟨A',c',hv,hA⟩:=h.algs.open_;obtain ⟨e1,e2⟩:A'=q.A8∧c'=q.c8:=by injection hv with e1 _ e2;exact ⟨e1.symm,e2.symm⟩
 obtain ⟨ad,hAd,had,hc⟩:=hA 0 (by omega);rw [oD] at hc
 have hE:jr q.al s=some q.al[0]:=by
  unfold jr;rw [ht,if_neg (by decide),List.head?_eq_getElem?,List.getElem?_eq_getElem (by omega)]
 rw [hE];rw [←e1,hAd] at c12;have hkI:(0:Int)<q.al.length:=by omega
 simp only [Option.getD_some,Option.isSome_some];generalize bs q.al[0]=kv at hc ⊢;generalize q.al.length=kn at c12 hkI hal2;clear h ht hv hA hE e1 e2 hAd hal;go_enter Tryz.func208,Tryz.ntmps208;go_wp2_with fail;go_ret2;exact ⟨rfl,by exact aa⟩
theorem JK (h:aI q T S s z W) (ht:s.told=true):Calls Tryz.prog 208 #[.pointer (some ⟨q.b,0,none⟩)] W (fun e w'=>e=.returned (.tuple #[.string (bs ((jr q.al s).getD [])),.bool (jr q.al s).isSome])∧Below W.heap.size W w'):=by
 have c12:=h.c12;have c26:=h.c26;have c27:=h.c27;rw [ht] at c26
 have hE:jr q.al s=jk q.al s.taken:=by
  unfold jr;rw [ht,if_pos rfl]
 have hal2:=h.ok.al2;have htl:=h.tkl;have HF:=hide (fun (V:World) (hb:Below W.heap.size W V)=>zO (w:=V) (c:=q.c8) (d:=z.c) (h.algs.below hb) (by omega) (h.taken.below hb) (by omega));unfold zm at HF;rw [hE];generalize bs ((jk q.al s.taken).getD [])=x at HF ⊢;generalize (jk q.al s.taken).isSome=y at HF ⊢;clear h ht hE hal2 htl;go_enter Tryz.func208,Tryz.ntmps208;go_upto_region 3 with fail
 go_region_held3 (fun V=>V.cell? ⟨q.b,12,none⟩=some (.slice q.A8 q.al.length q.c8)∧V.cell? ⟨q.b,27,none⟩=some (.slice z.A s.taken.length z.c))
  (exact ⟨c12,c27⟩)
  (first
   | (go_at_call 270;refine (HF.out _ (by exact aa)).mono ?_;rintro e w2 ⟨rfl,rfl⟩)
   | fail)
 go_wp2_with fail;go_ret2;exact ⟨rfl,by exact aa⟩
theorem lL (h:aI q T S s z W):Calls Tryz.prog 208 #[.pointer (some ⟨q.b,0,none⟩)] W (fun e w'=>e=.returned (.tuple #[.string (bs ((jr q.al s).getD [])),.bool (jr q.al s).isSome])∧Below W.heap.size W w'):=by
 cases ht:s.told with
 | false=>exact J4 h ht
 | true=>exact JK h ht
theorem BL (h:aI q T S s z W) (num:Nat):Calls Tryz.prog 76 #[.pointer (some ⟨q.b,0,none⟩),.int .i64 ((num:Nat):Int)] W (fun e w'=>e=.returned (.bool (gF num s))∧Below W.heap.size W w'):=by
 have c25:=h.c25
 have dd:∀k:Nat,(((s.ph:Nat):Int) == (k:Int))=decide (s.ph=k):=fun k=>by
  rw [Bool.eq_iff_iff,beq_iff_eq,decide_eq_true_eq];omega
 have d0:(((s.ph:Nat):Int) == 0)=decide (s.ph=0):=dd 0;have d1:(((s.ph:Nat):Int) == 1)=decide (s.ph=1):=dd 1;have d2:(((s.ph:Nat):Int) == 2)=decide (s.ph=2):=dd 2;have d3:(((s.ph:Nat):Int) == 3)=decide (s.ph=3):=dd 3;have nn:∀k:Nat,num≠k→(((num:Nat):Int) == (k:Int))=false:=fun k hk=>by rw [beq_eq_false_iff_ne];omega
 clear dd;generalize ((s.ph:Nat):Int)=p at c25 d0 d1 d2 d3
 by_cases n7:num=7
 ·have E:=hide (show gF num s=!(decide (s.ph=0)) from by unfold gF;rw [if_pos (.inl n7)];simp)
  rw [E.out,← d0];subst n7;clear E d0 d1 d2 d3 nn h;go_enter Tryz.func76,Tryz.ntmps76;go_wp2_with fail;go_ret;exact ⟨rfl,by exact aa⟩
 ·have e7:=nn 7 n7
  by_cases n53:num=53
  ·have E:=hide (show gF num s=!(decide (s.ph=0)) from by unfold gF;rw [if_pos (.inr n53)];simp)
   rw [E.out,← d0];subst n53;clear E d0 d1 d2 d3 nn h;go_enter Tryz.func76,Tryz.ntmps76;go_wp2_with fail;go_ret;exact ⟨rfl,by exact aa⟩
  ·have e53:=nn 53 n53
   by_cases n6:num=6
   ·have E:=hide (show gF num s=decide (s.ph=1) from by unfold gF;rw [if_neg (by omega),if_pos n6])
    rw [E.out,← d1];subst n6;clear E d0 d1 d2 d3 nn h;go_enter Tryz.func76,Tryz.ntmps76;go_wp2_with fail;go_ret;exact ⟨rfl,by exact aa⟩
   ·have e6:=nn 6 n6
    by_cases n60:num=60
    ·have E:=hide (show gF num s=decide (s.ph=2) from by unfold gF;rw [if_neg (by omega),if_neg n6,if_pos n60])
     rw [E.out,← d2];subst n60;clear E d0 d1 d2 d3 nn h;go_enter Tryz.func76,Tryz.ntmps76;go_wp2_with fail;go_ret;exact ⟨rfl,by exact aa⟩
    ·have e60:=nn 60 n60
     by_cases n52:num=52
     ·have E:=hide (show gF num s=decide (s.ph=3) from by unfold gF;rw [if_neg (by omega),if_neg n6,if_neg n60,if_pos n52])
      rw [E.out,← d3];subst n52;clear E d0 d1 d2 d3 nn h;go_enter Tryz.func76,Tryz.ntmps76;go_wp2_with fail;go_ret;exact ⟨rfl,by exact aa⟩
     ·have e52:=nn 52 n52
      by_cases n51:num=51
      ·by_cases p2:s.ph=2
       ·have E:=hide (show gF num s=true from by unfold gF;rw [if_neg (by omega),if_neg n6,if_neg n60,if_neg n52,if_pos n51,decide_eq_true (.inl p2)])
        rw [decide_eq_true p2] at d2;rw [E.out];subst n51;clear E d0 d1 d3 nn h p2;go_enter Tryz.func76,Tryz.ntmps76;go_wp2_with fail;go_ret;exact ⟨rfl,by exact aa⟩
       ·have E:=hide (show gF num s=decide (s.ph=3) from by unfold gF;rw [if_neg (by omega),if_neg n6,if_neg n60,if_neg n52,if_pos n51];simp [p2])
        rw [decide_eq_false p2] at d2;rw [E.out,← d3];subst n51;clear E d0 d1 d3 nn h p2;go_enter Tryz.func76,Tryz.ntmps76;go_wp2_with fail;go_ret;exact ⟨rfl,by exact aa⟩
      ·have e51:=nn 51 n51
       have E:=hide (show gF num s=false from by unfold gF;rw [if_neg (by omega),if_neg n6,if_neg n60,if_neg n52,if_neg n51]);rw [E.out];generalize ((num:Nat):Int)=m at e7 e53 e6 e60 e52 e51 ⊢;clear E d0 d1 d2 d3 nn h n7 n53 n6 n60 n52 n51;go_enter Tryz.func76,Tryz.ntmps76;go_wp2_with fail;go_ret;exact ⟨rfl,by exact aa⟩
theorem Px {w0 wb:World} {B g:Nat} (h:Pay w0 B g T S wb) {x:Option Tm} {n:Int} (hx:Idn T x n) (hT:T.length≤900000000) (w:World) (hb:Below wb.heap.size wb w):Calls Tryz.prog 14 #[.pointer (some ⟨g,0,none⟩),.int .i64 n] w (Lr w0 B g T S wb (gG x) 1):=by
 have H:=uh (h.use.below hb) n;rw [hx.1] at H;exact H.mono fun _ _ hd=>q8.y h hb (by omega) hd.f
def LG (q:ClQ) (T:List Tm) (S:Nat→Prop) (s:bS) (z:TkP) (W:World) (who:Int) (e:Ending) (w':World):Prop :=
 ∃n' T' S',e=.returned (.tuple #[.int .i64 n',.string (bs (fI who))])∧Idn T' (gG (dW who)) n'∧T <+: T'∧T'.length≤T.length+2∧aI q T' S' s z w'∧Grown S W S' w'
theorem oV (h:aI q T S s z W) (who:Int) (hT:T.length≤800000000):Calls Tryz.prog 131 #[.pointer (some ⟨q.b,0,none⟩),.int .i64 who] W (LG q T S s z W who):=by
 have c0:=h.c0;have nb:¬ S q.b:=h.zone.no h.lob (Nat.lt_succ_self _);have hlt:=h.blt;have HK:=hide (fun (V:World) (hb:Below W.heap.size W V)=>Qv h.pay who (by omega) V hb);have HPb:=hide (fun (V Vb:World) (T2:List Tm) (S2:Nat→Prop) (n2:Int) (hP2:Pay q.w0 q.B q.g T2 S2 Vb) (hi:Idn T2 (dW who) n2) (hT2:T2.length≤900000000) (hb:Below Vb.heap.size Vb V)=>Px hP2 hi hT2 V hb);have HM:=hide h;clear h;go_enter Tryz.func131,Tryz.ntmps131;go_upto_region 1 with fail
 go_region_held3 (fun V=>V.cell? ⟨q.b,0,none⟩=some (.pointer (some ⟨q.g,0,none⟩)))
  (exact c0)
  (first
   | (go_at_call 15;refine (HK.out _ (by exact aa)).mono ?_;rintro e w2 ⟨T2,n2,S2,rfl,hi2,hp2,hl2,hP2,hG2⟩;replace c0:=hG2.outs.cell c0 nb)
   | (go_at_call 14;refine (HPb.out _ w2 T2 S2 n2 hP2 hi2 (by omega) (by exact aa)).mono ?_;rintro e w3 ⟨T3,n3,S3,rfl,hi3,hp3,hl3,hP3,hG3⟩;replace c0:=hG3.outs.cell c0 (hG2.notin2 nb hlt))
   | fail)
 have hG:=hG2.trans hG3;have hM3:=HM.out.grown hG hP3 (hp2.trans hp3);have HB:=hide (uw hP3.ar hP3.use.tab n3);rw [hi3.1] at HB;unfold ByP at HB;have Hf:=hide (And.intro hi3 (And.intro (hp2.trans hp3) (And.intro hM3 hG)));have Hl:=hide (show T3.length≤T.length+2 from by omega);clear hi2 hp2 hl2 hP2 hG2 hi3 hp3 hl3 hP3 hG3 hG hM3 HK HPb nb
 have HB2:=hide (show Calls Tryz.prog 206 #[.pointer (some ⟨q.g,0,none⟩),.int .i64 n3] w3 (fun e w'=>∃z,e=.returned (.tuple #[.string (bs (fI who)),.bool z])∧Below w3.heap.size w3 w') from HB.out.mono fun e w' h9=>by
  unfold fI
  cases ho:(gG (dW who)).bind mQ with
  | none=>rw [ho] at h9;exact ⟨_,h9.1,h9.2⟩
  | some x=>rw [ho] at h9;exact ⟨_,h9.1,h9.2⟩)
 clear HB;generalize hpb:bs (fI who)=pb at HB2;have Hpb:=hide hpb;clear hpb;go_wp2_with fail;refine HB2.out.mono ?_;rintro e w4 ⟨z,rfl,hb4⟩;go_wp2_with fail;go_ret2;obtain ⟨hi3,hp3,hM3,hG3⟩:=Hf.out;exact ⟨n3,T3,S3,(by rw [Hpb.out];rfl),hi3,hp3,Hl.out,hM3.below hb4,hG3.trans (Grown.of_below hb4)⟩
end
def Cg (us alg pk:ByteArray) (k:Int):Array Value:=#[.int .u8 115,.int .i64 0,.string us,.slice none 0 0,.int .u8 115,.int .i64 0,.string ⟨#[115,115,104,45,99,111,110,110,101,99,116,105,111,110]⟩,.slice none 0 0,.int .u8 115,.int .i64 0,.string ⟨#[112,117,98,108,105,99,107,101,121]⟩,.slice none 0 0,.int .u8 98,.int .i64 k,.string ⟨#[]⟩,.slice none 0 0,.int .u8 115,.int .i64 0,.string alg,.slice none 0 0,.int .u8 116,.int .i64 0,.string pk,.slice none 0 0]
theorem QP {w:World} {b r i:Nat} {x u v:Value} (h:w.cell? ⟨b,i,none⟩=some x) (hne:b≠r):((w.setCell ⟨r,0,none⟩ u).setCell ⟨r,1,none⟩ v).cell? ⟨b,i,none⟩=some x :=
 ((World.cell?_setCell_other _ ⟨r,1,none⟩ ⟨b,i,none⟩ v (fun e=>hne (by injection e with e1;exact e1.symm))).trans (World.cell?_setCell_other _ ⟨r,0,none⟩ ⟨b,i,none⟩ u (fun e=>hne (by injection e with e1;exact e1.symm)))).trans h
section
variable {q : ClQ} {T T' : List Tm} {S S' : Nat → Prop} {s : bS} {z : TkP} {W W' : World}
def QC (q:ClQ) (T:List Tm) (S:Nat→Prop) (s:bS) (z:TkP) (W:World) (k:Int) (e:Ending) (w':World):Prop :=
 ∃b T' S',e=.returned (.agg #[.int .i64 50,.slice (some ⟨b,0,none⟩) 6 6])∧Blk w' b 60 (Cg (bs q.us) (bs s.alg) (bs (fI (bT q.ky (s.tried - 1)))) k)∧W.heap.size≤b∧¬ S' b∧T <+: T'∧T'.length≤T.length+2∧aI q T' S' s z w'∧Grown S W S' w'
theorem ul (h:aI q T S s z W) (h1:1≤s.tried) (hT:T.length≤700000000) (k:Int):Calls Tryz.prog 207 #[.pointer (some ⟨q.b,0,none⟩),.int .i64 k] W (QC q T S s z W k):=by
 obtain ⟨W0,hW0⟩:∃W0,W0=W.alloc (.cells #[.int .i64 0,.slice none 0 0] 55):=⟨_,rfl⟩
 have hb0:Below W.heap.size W W0:=by rw [hW0];exact az _
 have hR0:Blk W0 W.heap.size 55 #[.int .i64 0,.slice none 0 0]:=by rw [hW0];exact Blk.new W _ _
 have hM0:=h.below hb0;have nr:¬ S W.heap.size:=fun h9=>by have:=h.pay.ar.sL _ h9;omega
 have HK:=hide (jm hM0 h1);have HPb:=hide (fun (V:World) (hb:Below W0.heap.size W0 V)=>oV (hM0.below hb) (bT q.ky (s.tried - 1)) (by omega));have HT:=hide (fun (x:ByteArray) (V:World)=>wE x V);have Hb0:=hide hb0;have hlt:=hR0.lt;have hbl:=h.blt;have HZ:=hide (show q.B≤W.heap.size∧z.hi≤W.heap.size from ⟨by have:=h.lo0;have:=h.lob;omega,h.tk.2.2.1⟩);unfold QC;generalize bT q.ky (s.tried - 1)=who at HK HPb ⊢;unfold LG at HPb;generalize hpb:bs (fI who)=pb at HPb ⊢;have nbr:q.b≠W.heap.size:=by omega
 clear h hM0 hb0 hpb;go_enter Tryz.func207,Tryz.ntmps207;go_upto_region 1 with fail;rw [←hW0];clear hW0;go_wp2_with fail;refine HK.out.mono ?_;rintro e w1 ⟨rfl,hb1⟩
 go_upto_region 2 with (go_at_call 131;refine (HPb.out _ hb1).mono ?_;rintro e w2 ⟨n2,T2,S2,rfl,hi2,hp2,hl2,hM2,hG2⟩)
 have hlt1:W.heap.size<w1.heap.size:=Nat.lt_of_lt_of_le hlt hb1.size;have nr2:¬ S2 W.heap.size:=hG2.notin2 nr hlt1;have hR2:=hG2.outs.blk (hR0.below hb1 hlt) nr;have HR2:=hide hR2;have c17:=hM2.c17;have c29:=hM2.c29;have HC:=hide (And.intro c17 c29);have HM2:=hide hM2;have Hf:=hide (And.intro hp2 (And.intro hl2 (((Grown.of_below (S:=S) Hb0.out).trans (Grown.of_below hb1)).trans hG2)));have HT2:=hide (fun (x:ByteArray) (V:World) (hb:Below w2.heap.size w2 V)=>(HT.out x V).mono fun e w' h9=>(show e=.returned (.agg #[.int .u8 115,.int .i64 0,.string x,.slice none 0 0])∧Below w2.heap.size w2 w' from ⟨h9.1,hb.trans (h9.2.mono hb.size)⟩));have k0:=hR2.cell 0;have k1:=hR2.cell 1;have f0:=hR2.frozen 0;have f1:=hR2.frozen 1;simp only [List.getElem?_toArray,List.getElem?_cons_zero,List.getElem?_cons_succ] at k0 k1;clear hi2 hp2 hl2 hM2 hG2 hR2 HT HK HPb hb1 hR0
 go_region_held3 (fun V=>V.cell? ⟨q.b,17,none⟩=some (.string (bs q.us))∧V.cell? ⟨q.b,29,none⟩=some (.string (bs s.alg)))
  (first | exact ⟨c17,c29⟩ | (with_reducible exact ⟨gP c17,gP c29⟩) | exact ⟨QP (gP c17) nbr,QP (gP c29) nbr⟩)
  (first
   | (go_at_call 69;refine (HT2.out _ _ (by exact aa)).mono ?_;rintro e wq ⟨rfl,hbq⟩;replace c17:=dh hbq HC.out.1;replace c29:=dh hbq HC.out.2;have hRq:=HR2.out.below hbq HR2.out.lt;have k0:=hRq.cell 0;have k1:=hRq.cell 1;have f0:=hRq.frozen 0;have f1:=hRq.frozen 1;simp only [List.getElem?_toArray,List.getElem?_cons_zero,List.getElem?_cons_succ] at k0 k1;have K0:=fun o=>gP (o:=o) k0;have K1:=fun o=>gP (o:=o) k1;have F0:=fun (o:Obj)=>(hRq.alloc o).frozen 0;have F1:=fun (o:Obj)=>(hRq.alloc o).frozen 1)
   | fail)
 obtain ⟨w5,hw5⟩:∃W5,W5=wq.alloc (.cells (Cg (bs q.us) (bs s.alg) pb k) 60):=⟨_,rfl⟩
 obtain ⟨w6,hw6⟩:∃W6,W6=(w5.setCell ⟨W.heap.size,0,none⟩ (.int .i64 50)).setCell ⟨W.heap.size,1,none⟩ (.slice (some ⟨wq.heap.size,0,none⟩) 6 6):=⟨_,rfl⟩
 have hbn:Below wq.heap.size wq w5:=by rw [hw5];exact az _
 have hY:Blk w5 wq.heap.size 60 (Cg (bs q.us) (bs s.alg) pb k):=by rw [hw5];exact Blk.new wq _ _
 have hR5:=hRq.below hbn hRq.lt;have hF:=dF hR5 (.int .i64 50) (.slice (some ⟨wq.heap.size,0,none⟩) 6 6);have k6:w5.grownBy w6 (some W.heap.size):=by rw [hw6];exact au (ag (aj w5 _) (.inl rfl) _) (ag (aj _ _) (.inl rfl) _)
 have hb25:Below w2.heap.size w2 w5:=hbq.trans (hbn.mono hbq.size);have hz2:=HM2.out;have hs2q:=hbq.size;have hRl:=HR2.out.lt;have hBl:=HZ.out;have hM6:=(HM2.out.below hb25).row k6 nr2 hBl.1 hbl hBl.2;have hG6:=(Hf.out.2.2.trans (Grown.of_below hb25)).keepNew k6 (fun i e=>by cases e;omega);have hY6:Blk w6 wq.heap.size 60 (Cg (bs q.us) (bs s.alg) pb k):=hY.grown k6 (fun e=>by have:=Option.some.inj e;omega);have hn6:¬ S2 wq.heap.size:=fun h9=>by have:=HM2.out.pay.ar.sL _ h9;omega
 have Hfin:=hide (show ∃b T' S',Ending.returned (.agg #[.int .i64 50,.slice (some ⟨wq.heap.size,0,none⟩) 6 6])=.returned (.agg #[.int .i64 50,.slice (some ⟨b,0,none⟩) 6 6])∧Blk w6 b 60 (Cg (bs q.us) (bs s.alg) pb k)∧W.heap.size≤b∧¬ S' b∧T <+: T'∧T'.length≤T.length+2∧aI q T' S' s z w6∧Grown S W S' w6 from ⟨wq.heap.size,T2,S2,rfl,hY6,by omega,hn6,Hf.out.1,Hf.out.2.1,hM6,hG6⟩);have hw7:=hw6;rw [hw5] at hw7;unfold Cg at hw7;rw [←hw6] at hF;rw [←hw7];have q0:=hF.cell 0;have q1:=hF.cell 1;simp only [List.getElem?_toArray,List.getElem?_cons_zero,List.getElem?_cons_succ] at q0 q1;clear hw5 hw6 hw7 hbn hY hR5 hF k6 hb25 hM6 hG6 hY6 hn6 hbq hRq k0 k1 f0 f1 K0 K1 F0 F1 c17 c29 HC HT2 HR2 nr nr2 hlt hlt1 nbr;generalize wq.heap.size=b6 at q1 Hfin ⊢;go_wp2_with fail;exact bodyPost_ret (v:=.agg #[.int .i64 50,.slice (some ⟨b6,0,none⟩) 6 6]) (by simp [results,Tryz.results207,go_sem,q0,q1]) rfl Hfin.out
end
def iV (x:Fld):List Value:=[.int .u8 x.k,.int .i64 x.n,.string (bs x.s),.slice none 0 0]
theorem Km:∀(l:List Fld) (i j:Nat),j<4→(l.flatMap iV)[i*4+j]?=(l[i]?).bind fun x=>(iV x)[j]?
 | [],i,j,_=>by simp
 | x :: r,0,j,hj=>by
  rw [Nat.zero_mul,Nat.zero_add,List.flatMap_cons,List.getElem?_append_left (by show j<4;exact hj)];rfl
 | x :: r,i+1,j,hj=>by
  rw [List.flatMap_cons,List.getElem?_append_right (by show 4≤_;omega),show (i+1)*4+j - (iV x).length=i*4+j from by show (i+1)*4+j - 4=_;omega,Km r i j hj];rfl
theorem MF {W:World} {b:Nat} {l:List Fld} (h:Blk W b 60 (l.flatMap iV).toArray) (hl:∀x∈l,x.l=[]∧x.k<256):kR W (some ⟨b,0,none⟩) l:=by
 refine ⟨fun i x hx=>?_⟩
 have hc:∀j,j<4→W.cell? ⟨b,i*4+j,none⟩=(iV x)[j]?:=fun j hj=>by
  rw [h.cell (i*4+j),List.getElem?_toArray,Km l i j hj,hx];rfl
 obtain ⟨hx1,hx2⟩:=hl x (List.mem_of_getElem? hx);refine ⟨⟨b,0,none⟩,.slice none 0 0,rfl,h.lt,?_⟩;rw [bJ];exact ⟨hc 0 (by omega),hc 1 (by omega),hc 2 (by omega),hc 3 (by omega),by rw [hx1];exact yU W 0,hx2⟩
theorem xw (us alg pk:List UInt8) (k:Int):Cg (bs us) (bs alg) (bs pk) k=((gQ us alg pk k).flatMap iV).toArray:=rfl
theorem Lm {W:World} {b:Nat} {us alg pk:List UInt8} {k:Int} (h:Blk W b 60 (Cg (bs us) (bs alg) (bs pk) k)):kR W (some ⟨b,0,none⟩) (gQ us alg pk k) :=
 MF (by rw [←xw];exact h) (fun x hx=>by
  simp only [gQ,List.mem_cons,List.not_mem_nil,or_false] at hx;rcases hx with rfl | rfl | rfl | rfl | rfl | rfl
  ·exact ⟨rfl,show (115:Nat)<256 by decide⟩
  ·exact ⟨rfl,show (115:Nat)<256 by decide⟩
  ·exact ⟨rfl,show (115:Nat)<256 by decide⟩
  ·exact ⟨rfl,show (98:Nat)<256 by decide⟩
  ·exact ⟨rfl,show (115:Nat)<256 by decide⟩
  ·exact ⟨rfl,show (116:Nat)<256 by decide⟩)
theorem ML {us alg pk:List UInt8} {k:Int} (h1:us.length≤1000) (h2:alg.length≤1000) (h3:pk.length≤100000):∀x∈gQ us alg pk k,SzF x:=by
 intro x hx;simp only [gQ,List.mem_cons,List.not_mem_nil,or_false] at hx;rcases hx with rfl | rfl | rfl | rfl | rfl | rfl
 ·exact ⟨by show us.length≤_;omega,by simp,by simp⟩
 ·exact ⟨by decide,by simp,by simp⟩
 ·exact ⟨by decide,by simp,by simp⟩
 ·exact ⟨by simp,by simp,by simp⟩
 ·exact ⟨by show alg.length≤_;omega,by simp,by simp⟩
 ·exact ⟨by show pk.length≤_;omega,by simp,by simp⟩
theorem ow (who:Int):(fI who).length≤100:=by
 unfold fI dW
 by_cases h:okN who=true
 ·rw [if_pos h]
  show (enc (.mk 4 0 0 eB [.mk 3 who.toNat 0 eB []])).length≤100;simp [enc,encs,head,mid,q4]
 ·rw [if_neg h]
  exact Nat.zero_le _
theorem yA {num:Int} {l:List Fld} {s:bS} {ev:Option (Int × Int × List UInt8)} {b:List UInt8} (h:encS num l=.ok b):pK num l s ev=(s,⟨b,ev,none⟩):=by unfold pK;rw [h]
theorem lJ {num:Int} {l:List Fld} {s:bS} {ev:Option (Int × Int × List UInt8)} {ps:List (List UInt8)} {k:Nat} (h:ic num (encS num l)=some (ps,k)):pK num l s ev=eZ s ps (k:Nat):=by
 unfold pK
 cases hq:encS num l with
 | ok b=>rw [hq] at h;cases h
 | none=>rw [hq] at h;simp only;rw [h]
 | long=>rw [hq] at h;simp only;rw [h]
 | bad e i=>rw [hq] at h;simp only;rw [h]
section
variable {q : ClQ} {T T' : List Tm} {S S' : Nat → Prop} {s : bS} {z : TkP} {W W' : World}
def vO (q:ClQ) (T:List Tm) (S:Nat→Prop) (z:TkP) (W:World) (m:Nat) (o:bS × lh) (e:Ending) (w':World):Prop :=
 ∃T' S' er,e=.returned (.tuple #[.string (bs o.2.out),er])∧ErV w' o.2.err er∧T <+: T'∧T'.length≤T.length+m∧aI q T' S' o.1 z w'∧Grown (SB q.b q.b S) W (SB q.b q.b S') w'
theorem Mv (hc:jr q.al s=none):jM q.us q.al q.ky s=eZ s [kC] 12:=by unfold jM;rw [hc]
theorem KH {a:List UInt8} (hc:jr q.al s=some a) (h:q.ky.length≤s.tried):jM q.us q.al q.ky s=eZ s [kC] 12:=by unfold jM;rw [hc];exact if_pos h
theorem RH {a:List UInt8} (hc:jr q.al s=some a) (h:¬ q.ky.length≤s.tried):jM q.us q.al q.ky s=pK 50 (gQ q.us a (fI (bT q.ky s.tried)) 0) ⟨2,s.told,s.taken,s.tried+1,a⟩ none:=by unfold jM;rw [hc];exact if_neg h
theorem BO (h:aI q T S s z W) (hc:jr q.al s=none):Calls Tryz.prog 134 #[.pointer (some ⟨q.b,0,none⟩)] W (vO q T S z W 100 (jM q.us q.al q.ky s)):=by
 have HC:=hide (lL h);rw [hc] at HC;simp only [Option.getD_none,Option.isSome_none] at HC;have HO:=hide (fun (V:World)=>bH ⟨#[119,97,121,115]⟩ 12 (by decide) V);have HM:=hide h;have E:=hide (Mv (q:=q) hc);rw [E.out];clear h hc;go_enter Tryz.func134,Tryz.ntmps134;go_wp2_with fail;refine HC.out.mono ?_;rintro e w1 ⟨rfl,hb1⟩;go_wp2_with fail;go_quiet (fail);go_wp2_with fail;refine (HO.out _).mono ?_;rintro e w2 ⟨b,rfl,hi2,hb2⟩;have hb2:=(below_drewN (Below.refl w1.heap.size w1) _).trans hb2;have Hi:=hide (And.intro hi2 (hb1.trans (hb2.mono hb1.size)));clear hi2 hb2 hb1;go_wp2_with fail;go_ret2;exact ⟨T,S,aH b,rfl,Hi.out.1,List.prefix_refl _,by omega,HM.out.below Hi.out.2,(Grown.of_below Hi.out.2).sb _ _⟩
theorem Bp (h:aI q T S s z W) {a:List UInt8} (hc:jr q.al s=some a) (hn:q.ky.length≤s.tried):Calls Tryz.prog 134 #[.pointer (some ⟨q.b,0,none⟩)] W (vO q T S z W 100 (jM q.us q.al q.ky s)):=by
 have HC:=hide (lL h);rw [hc] at HC;simp only [Option.getD_some,Option.isSome_some] at HC;have HO:=hide (fun (V:World)=>bH ⟨#[119,97,121,115]⟩ 12 (by decide) V);have HM:=hide h;have E:=hide (KH hc hn);have c18:=h.c18;have c28:=h.c28;have hge:(q.ky.length:Int)≤((s.tried:Nat):Int):=by omega
 rw [E.out];generalize ((s.tried:Nat):Int)=m at c28 hge;clear h hc hn;have HX:=hide (And.intro c18 c28);clear c18 c28;go_enter Tryz.func134,Tryz.ntmps134;go_wp2_with fail;refine HC.out.mono ?_;rintro e w1 ⟨rfl,hb1⟩;have c18:=dh hb1 HX.out.1;have c28:=dh hb1 HX.out.2;go_wp2_with fail;go_quiet (fail);go_wp2_with fail;refine (HO.out _).mono ?_;rintro e w2 ⟨b,rfl,hi2,hb2⟩;have hb2:=(below_drewN (Below.refl w1.heap.size w1) _).trans hb2;have Hi:=hide (And.intro hi2 (hb1.trans (hb2.mono hb1.size)));clear hi2 hb2 hb1;go_wp2_with fail;go_ret2;exact ⟨T,S,aH b,rfl,Hi.out.1,List.prefix_refl _,by omega,HM.out.below Hi.out.2,(Grown.of_below Hi.out.2).sb _ _⟩
theorem aI.qry_ (h:aI q T S s z W) {a:List UInt8} (ha:a.length≤1000) (hn:¬ q.ky.length≤s.tried) :
  aI q T S ⟨2,s.told,s.taken,s.tried+1,a⟩ z (((W.setCell ⟨q.b,29,none⟩ (.string (bs a))).setCell ⟨q.b,25,none⟩ (.int .i64 2)).setCell ⟨q.b,28,none⟩ (.int .i64 ((s.tried+1:Nat):Int))):=by
 have h1:=h.put_ 5 (.string (bs a)) (s':=⟨s.ph,s.told,s.taken,s.tried,a⟩) rfl rfl h.try_ ha;have h2:=h1.put_ 1 (.int .i64 2) (s':=⟨2,s.told,s.taken,s.tried,a⟩) rfl rfl h.try_ ha;exact h2.put_ 4 (.int .i64 ((s.tried+1:Nat):Int)) (s':=⟨2,s.told,s.taken,s.tried+1,a⟩) rfl rfl (by show s.tried+1≤_;omega) ha
theorem LB (h:aI q T S s z W) {a:List UInt8} (hc:jr q.al s=some a):a.length≤1000:=rH h.ok.aly hc
theorem GQ (h:aI q T S s z W) {a:List UInt8} (hc:jr q.al s=some a) (hn:¬ q.ky.length≤s.tried) (hT:T.length≤700000000):Calls Tryz.prog 134 #[.pointer (some ⟨q.b,0,none⟩)] W (vO q T S z W 100 (jM q.us q.al q.ky s)):=by
 have HC:=hide (lL h);rw [hc] at HC;simp only [Option.getD_some,Option.isSome_some] at HC;have HM:=hide h;have E:=hide (RH hc hn);have ha:=LB h hc;have hky:=h.ok.ky2;have hge:¬ (q.ky.length:Int)≤((s.tried:Nat):Int):=by omega
 have HX:=hide (And.intro h.c18 h.c28);have HL:=hide (And.intro h.ok.us2 (And.intro ha hn));have hwr:IntKind.i64.wrap (((s.tried:Nat):Int)+1)=((s.tried+1:Nat):Int):=by rw [IntKind.wrap_i64];omega
 rw [E.out];clear h hc hn ha hky;go_enter Tryz.func134,Tryz.ntmps134;go_wp2_with fail;refine HC.out.mono ?_;rintro e w1 ⟨rfl,hb1⟩;have c18:=dh hb1 HX.out.1;have hM1:=HM.out.below hb1;have c28:=hM1.c28;have c25:=hM1.c25;have c29:=hM1.c29;have f28:=hM1.cb.frz 28;have f25:=hM1.cb.frz 25;have f29:=hM1.cb.frz 29;have HM1:=hide hM1;have Hb1:=hide hb1;clear hM1 hb1 HC HM HX;generalize hph:((s.ph:Nat):Int)=ph at c25;generalize hal:bs s.alg=al at c29;clear hph hal;go_wp2_with fail;go_quiet (fail);go_wp2_with fail
 obtain ⟨w2,hw2⟩:∃W2,W2=(((w1.drewN nq).setCell ⟨q.b,29,none⟩ (.string (bs a))).setCell ⟨q.b,25,none⟩ (.int .i64 2)).setCell ⟨q.b,28,none⟩ (.int .i64 (((s.tried:Nat):Int)+1)):=⟨_,rfl⟩
 have hMd:=HM1.out.below (below_drewN (Below.refl w1.heap.size w1) nq)
 have hM2:aI q T S ⟨2,s.told,s.taken,s.tried+1,a⟩ z w2:=by
  rw [hw2];exact hMd.qry_ HL.out.2.1 HL.out.2.2
 have hk:w1.grownBy w2 (some q.b):=by
  rw [hw2];exact au (ai (below_drewN (Below.refl w1.heap.size w1) nq) (some q.b)) (au (au (ag (aj _ (some q.b)) (.inl rfl) _) (ag (aj _ (some q.b)) (.inl rfl) _)) (ag (aj _ (some q.b)) (.inl rfl) _))
 rw [←hw2];have HG2:=hide (((Grown.of_below Hb1.out).sb q.b q.b).trans (RY (S:=S) (b1:=q.b) (b2:=q.b) hk));have HA:=hide (ul hM2 (by show 1≤s.tried+1;omega) hT 0);clear hw2 hMd hM2 hk HM1 c18 c28 c25 c29 f28 f25 f29;unfold QC at HA;simp only [Nat.add_sub_cancel] at HA;refine HA.out.mono ?_;rintro e w3 ⟨b,T3,S3,rfl,hB3,_,_,hp3,hl3,hM3,hG3⟩;have HE:=hide (lN 50 (c:=6) (Lm hB3) (ML HL.out.1 HL.out.2.1 (Nat.le_trans (ow _) (by decide))) (show (6:Nat)≤1000 by decide));have HM3:=hide hM3;have HG3:=hide (HG2.out.trans (hG3.sb q.b q.b));have Hp3:=hide (And.intro hp3 hl3);clear hB3 hM3 hG3 hp3 hl3 HA HG2;rw [show ((gQ q.us a (fI (bT q.ky s.tried)) 0).length:Nat)=6 from rfl] at HE;go_wp2_with fail;refine HE.out.mono ?_;rintro e w4 ⟨hb4,⟨q4,hq4,rfl⟩ | ⟨b4,ps,k4,hk4,rfl,hi4⟩⟩
 ·have Hq:=hide hq4
  have Hb4:=hide hb4;clear hb4 hq4;generalize hy:bs q4=y;have Hy:=hide hy;clear hy;go_wp2_with fail;go_ret2;rw [yA Hq.out];exact ⟨T3,S3,.nilIface,(by rw [←Hy.out];rfl),rfl,Hp3.out.1,(by have:=Hp3.out.2;omega),HM3.out.below Hb4.out,HG3.out.trans ((Grown.of_below Hb4.out).sb _ _)⟩
 ·have Hq:=hide hk4
  have Hb4:=hide (And.intro hb4 hi4);clear hb4 hi4 hk4;go_wp2_with fail;go_ret2;rw [lJ Hq.out];exact ⟨T3,S3,aH b4,rfl,Hb4.out.2,Hp3.out.1,(by have:=Hp3.out.2;omega),HM3.out.below Hb4.out.1,HG3.out.trans ((Grown.of_below Hb4.out.1).sb _ _)⟩
theorem uu (h:aI q T S s z W) (hT:T.length≤700000000):Calls Tryz.prog 134 #[.pointer (some ⟨q.b,0,none⟩)] W (vO q T S z W 100 (jM q.us q.al q.ky s)):=by
 cases hc:jr q.al s with
 | none=>exact BO h hc
 | some a =>
  by_cases hn:q.ky.length≤s.tried
  ·exact Bp h hc hn
  ·exact GQ h hc hn hT
end
theorem DR (s:List UInt8):(splitN s).2.length≤1000:=by
 unfold splitN
 split
 ·exact Nat.zero_le _
 ·split
  ·rename_i h
   show (aX s).length≤1000;rcases Nat.lt_or_ge 16 (aX s).length with h2 | h2
   ·rw [lS h2] at h
    cases h
   ·omega
  ·exact Nat.zero_le _
section
variable {q : ClQ} {T T' : List Tm} {S S' : Nat → Prop} {s : bS} {z : TkP} {W W' : World}
def Sy (q:ClQ) (T:List Tm) (S:Nat→Prop) (W:World) (o:bS × lh) (e:Ending) (w':World):Prop :=
 ∃z' er,e=.returned er∧ErV w' o.2.err er∧aI q T S o.1 z' w'∧Grown (SB q.b q.b S) W (SB q.b q.b S) w'
theorem aI.tell (h:aI q T S s z W) {ls:List (List UInt8)} {A2:Option Addr} {c2 lo2:Nat} (hS:Sl lo2 W 1 A2 ls.length ((ls.map bs).map Value.string)) (h1:q.b<lo2) (h2:lo2≤W.heap.size) (h3:∀i,S i→i<lo2) (h4:ls.length≤1000) :
  aI q T S ⟨s.ph,true,ls,s.tried,s.alg⟩ ⟨A2,c2,lo2,W.heap.size⟩ ((W.setCell ⟨q.b,26,none⟩ (.bool true)).setCell ⟨q.b,27,none⟩ (.slice A2 ls.length c2)) :=
 h.set_ (s':=⟨s.ph,true,ls,s.tried,s.alg⟩) (z':=⟨A2,c2,lo2,W.heap.size⟩) (fun p hp=>(World.cell?_setCell_other _ ⟨q.b,27,none⟩ p _ (fun e=>hp (by rw [←e]))).trans (World.cell?_setCell_other W ⟨q.b,26,none⟩ p _ (fun e=>hp (by rw [←e]))))
  (au (h.k_ 2 (.bool true)) (ag (aj _ (some q.b)) (.inl rfl) _)) ((h.cb.set_ 2 (.bool true)).set_ 3 (.slice A2 ls.length c2))
  ⟨h1,h2,Nat.le_refl _,fun i hi=>.inl (h3 i hi),nN.mk hS (Nat.le_refl _) (fun _ _ _=>rfl)⟩ h4 h.try_ h.alz
theorem Tq {a b:List UInt8} {r:List (List UInt8)} {t:Bool × List (List UInt8)}:jW (a :: b :: r) t=if a=iU then (if (splitN b).1=0 then jW r (true,(splitN b).2) else (t,some (splitN b).1)) else jW r t:=rfl
theorem Te {l:List (List UInt8)} {t:Bool × List (List UInt8)} (h:l.length≤1):jW l t=(t,none):=by
 match l,h with
 | [],_=>rfl
 | [a],_=>rfl
theorem KS (h:aI q T S s z W) {A:Option Addr} {c:Nat} {l:List (List UInt8)} (hl:nN (q.b+1) W.heap.size W (.slice A l.length c) l) (hn:l.length≤1000) (hy:∀y∈l,y.length≤1000000) :
  Calls Tryz.prog 128 #[.pointer (some ⟨q.b,0,none⟩),.slice A l.length c] W (Sy q T S W (uS l s)):=by
 have HM0:=hide h;have HL:=hide hl;have Hy:=hide hy;have hbl:=h.blt;clear h hl hy;go_enter Tryz.func128,Tryz.ntmps128;go_wp2_with fail
 go_loopw [5] (fun vi wr=>∃(i:Nat) (t:Bool × List (List UInt8)) (z':TkP),vi=.int .i64 i∧i≤l.length+1∧Hid (jW l (s.told,s.taken)=jW (l.drop i) t)∧Hid (aI q T S ⟨s.ph,t.1,t.2,s.tried,s.alg⟩ z' wr)∧Hid (Grown (SB q.b q.b S) W (SB q.b q.b S) wr)∧Hid (∀p:Addr,q.b+1≤p.block→p.block<W.heap.size→wr.cell? p=W.cell? p)) (fun vi _=>l.length+1 - (intOf vi).toNat)
 case atStart=>exact ⟨0,(s.told,s.taken),z,rfl,Nat.zero_le _,hide rfl,HM0,hide (Grown.refl _ _),hide (fun _ _ _=>rfl)⟩
 case round =>
  obtain ⟨i,t,z',rfl,hi,H1,HM,HG,HP⟩:=hrel
  obtain ⟨j,hj⟩:∃j,j=i+1:=⟨_,rfl⟩
  have hw:IntKind.i64.wrap ((i:Int)+1)=(j:Int):=by rw [IntKind.wrap_i64];omega
  have hw2:IntKind.i64.wrap ((i:Int)+2)=((i+2:Nat):Int):=by rw [IntKind.wrap_i64];omega
  by_cases hlt:j<l.length
  ·have hjI:(j:Int)<l.length:=by omega
   have hiI:(i:Int)<l.length:=by omega
   have HT:=HL.out wr HG.out.size HP.out;obtain ⟨A',c',hv,hA⟩:=HT.open_;obtain ⟨rfl,rfl⟩:A'=A∧c'=c:=by injection hv with e1 _ e2;exact ⟨e1.symm,e2.symm⟩
   obtain ⟨ad,rfl,had,hci⟩:=hA i (by omega);obtain ⟨ad2,had2,_,hcj⟩:=hA j hlt;obtain rfl:ad=ad2:=Option.some.inj had2
   have hd:l.drop i=l[i]'(by omega) :: l[j] :: l.drop (i+2):=by
    rw [List.drop_eq_getElem_cons (by omega:i<l.length)];subst hj;rw [List.drop_eq_getElem_cons hlt]
   have hyj:l[j].length≤1000000:=Hy.out _ (List.getElem_mem hlt);have hE2:=H1.out;rw [hd,Tq] at hE2;have HE2:=hide hE2;have HD:=hide hd;generalize l[j]=y at hcj hyj HE2 HD;have hcj2:wr.cell? (ad.add (i+1))=some (.string (bs y)):=by rw [←hj];exact hcj
   have hcj3:wr.cell? ⟨ad.block,ad.off+(i+1),none⟩=some (.string (bs y)):=eT hcj2;have hjI2:(i:Int)+1<l.length:=by omega
   generalize l[i]'(by omega)=x at hci HE2 HD;clear hd hE2 H1 hA hv HT
   by_cases ha:x=iU
   ·have e1:(!((bs x).toList == ([115,101,114,118,101,114,45,115,105,103,45,97,108,103,115]:List UInt8)))=false:=by rw [aN,ha];rfl
    have hE3:=HE2.out;rw [if_pos ha] at hE3;have HS:=hide (uR (w:=wr) (bs y) HM.out.pay.max.maxL (by rw [aR];omega));rw [aU] at HS;have hsl:=DR y;generalize splitN y=sp at HS hE3 hsl;obtain ⟨ek,ls⟩:=sp;simp only at HS hE3 hsl;have HE3:=hide hE3;clear hE3 ha HE2 hyj;have hbr:q.b<wr.heap.size:=HM.out.blt;go_wp2_with fail;refine HS.out.mono ?_;rintro e w1 ⟨v,rfl,hN,hb1⟩;obtain ⟨A2,c2,rfl,hc2,hSl⟩:=hN;have hM1:=HM.out.below hb1;have c26:=hM1.c26;have c27:=hM1.c27;have f26:=hM1.cb.frz 26;have f27:=hM1.cb.frz 27;have HM1:=hide hM1;have Hb1:=hide hb1;have HSl:=hide hSl;clear hb1 hSl hM1 HS hc2;generalize hto:t.1=tb at c26;generalize hta:z'.A=za at c27;generalize htc:z'.c=zc at c27;generalize htl:t.2.length=tl at c27;clear hto hta htc htl
    by_cases hk:ek=0
    ·subst hk
     have hE4:=HE3.out;rw [if_pos rfl] at hE4;have HE4:=hide hE4;have hM2:=HM1.out.tell (c2:=c2) HSl.out hbr Hb1.out.size (fun i hi=>HM.out.pay.ar.sL i hi) hsl;have hk2:w1.grownBy ((w1.setCell ⟨q.b,26,none⟩ (.bool true)).setCell ⟨q.b,27,none⟩ (.slice A2 ls.length c2)) (some q.b):=au (ag (aj w1 (some q.b)) (.inl rfl) _) (ag (aj _ (some q.b)) (.inl rfl) _)
     obtain ⟨w2,hw2'⟩:∃W2,W2=(w1.setCell ⟨q.b,26,none⟩ (.bool true)).setCell ⟨q.b,27,none⟩ (.slice A2 ls.length c2):=⟨_,rfl⟩
     rw [←hw2'] at hM2 hk2;have HM2:=hide hM2;have HG2:=hide ((HG.out.trans ((Grown.of_below Hb1.out).sb q.b q.b)).trans (RY (S:=S) (b2:=q.b) hk2));have hsz:=HG.out.size;have HP2:=hide (fun (p:Addr) (h1:q.b+1≤p.block) (h2:p.block<W.heap.size)=>((World.cell?_of_block (hk2.block p.block (Nat.lt_of_lt_of_le h2 (Nat.le_trans hsz Hb1.out.size)) (fun e=>by have:=Option.some.inj e;omega))).trans (Hb1.out.cell (Nat.lt_of_lt_of_le h2 hsz))).trans (HP.out p h1 h2));clear hM2 hk2 hE4 HE3;go_upto_region 3 with fail;rw [←hw2'];clear hw2' c26 c27 f26 f27;go_wp2_with fail;go_roundw
     case rel=>exact ⟨i+2,(true,ls),⟨A2,c2,wr.heap.size,w1.heap.size⟩,by go_num,by omega,HE4,HM2,HG2,HP2⟩
     case measure=>simp [intOf];omega
    ·have hkk:((ek:Int) == 0)=false:=by rw [beq_eq_false_iff_ne];omega
     have HE5:=hide (show uS l s=eZ ⟨s.ph,t.1,t.2,s.tried,s.alg⟩ [Su] ek from by unfold uS;rw [HE3.out,if_neg hk]);have HO:=hide (fun (V:World)=>bH ⟨#[101,120,116]⟩ (ek:Int) hkk V);generalize (ek:Int)=ei at hkk HE5 HO ⊢;clear HE3 c26 c27 f26 f27 hk;go_wp2_with fail;refine (HO.out _).mono ?_;rintro e w2 ⟨b,rfl,hi2,hb2⟩;have Hi:=hide (And.intro hi2 (Hb1.out.trans (hb2.mono Hb1.out.size)));clear hi2 hb2;go_wp2_with fail;go_ret;rw [HE5.out];exact ⟨z',aH b,rfl,Hi.out.1,HM.out.below Hi.out.2,HG.out.trans ((Grown.of_below Hi.out.2).sb _ _)⟩
   ·have e1:(!((bs x).toList == ([115,101,114,118,101,114,45,115,105,103,45,97,108,103,115]:List UInt8)))=true:=by rw [Bool.not_eq_true',aN,beq_eq_false_iff_ne];exact ha
    have hE3:=HE2.out;rw [if_neg ha] at hE3;have HE3:=hide hE3;clear hE3 ha HE2 hyj;go_wp2_with fail;go_roundw
    case rel=>exact ⟨i+2,t,z',by go_num,by omega,HE3,HM,HG,HP⟩
    case measure=>simp [intOf];omega
  ·have hjI:¬ (j:Int)<l.length:=by omega
   have hjI2:¬ (i:Int)+1<l.length:=by omega
   have HE:=hide (show uS l s=(⟨s.ph,t.1,t.2,s.tried,s.alg⟩,⟨[],none,none⟩) from by unfold uS;rw [H1.out,Te (by rw [List.length_drop];omega)]);clear H1;go_wp2_with fail;go_ret;rw [HE.out];exact ⟨z',.nilIface,rfl,rfl,HM.out,HG.out⟩
end
def evK (kd who:Int) (user service alg:ByteArray) (n:Int):Array Value:=#[.int .i64 kd,.int .i64 0,.int .i64 0,.int .i64 who,.string user,.string service,.string alg,.int .i64 n,.string ⟨#[]⟩,.string ⟨#[]⟩,.string ⟨#[]⟩,.string ⟨#[]⟩,.string ⟨#[]⟩,.string ⟨#[]⟩,.string ⟨#[]⟩,.string ⟨#[]⟩,.string ⟨#[]⟩,.string ⟨#[]⟩,.string ⟨#[]⟩,.string ⟨#[]⟩,.int .i64 0,.int .u32 0,.int .u32 0,.int .u32 0,.string ⟨#[]⟩,.string ⟨#[]⟩,.int .i64 0,.int .i64 0,.int .i64 0,.int .i64 0,.int .i64 0,.int .i64 0,.int .i64 0,.int .i64 0]
section
variable {q : ClQ} {T T' : List Tm} {S S' : Nat → Prop} {s : bS} {z : TkP} {W W' : World}
def LD (n:Int) (kd who:Int) (us alg:List UInt8) (W:World) (e:Ending) (w':World):Prop :=
 ∃b,e=.returned (.slice (some ⟨b,0,none⟩) 1 1)∧Blk w' b 69 (evK kd who (bs us) (bs bA) (bs alg) n)∧Below W.heap.size W w'∧W.heap.size≤b
theorem tQ (h:aI q T S s z W) (h1:1≤s.tried) (kd:Int):Calls Tryz.prog 130 #[.pointer (some ⟨q.b,0,none⟩),.int .i64 kd] W (LD q.n kd (bT q.ky (s.tried - 1)) q.us s.alg W):=by
 have HK:=hide (fun (V:World) (hb:Below W.heap.size W V)=>(jm (h.below hb) h1).mono fun e w' h9=>(show e=.returned (.int .i64 (bT q.ky (s.tried - 1)))∧Below W.heap.size W w' from ⟨h9.1,hb.trans (h9.2.mono hb.size)⟩));have c17:=h.c17;have c24:=h.c24;have c29:=h.c29;unfold LD;rw [show bs bA=⟨#[115,115,104,45,99,111,110,110,101,99,116,105,111,110]⟩ from rfl];generalize bT q.ky (s.tried - 1)=who at HK ⊢;generalize bs q.us=us at c17 ⊢;generalize bs s.alg=al at c29 ⊢;have HC:=hide (And.intro c17 (And.intro c24 c29));clear h h1;go_enter Tryz.func130,Tryz.ntmps130;go_upto_region 1 with fail
 go_region_held3 (fun V=>V.cell? ⟨q.b,17,none⟩=some (.string us)∧V.cell? ⟨q.b,24,none⟩=some (.int .i64 q.n)∧V.cell? ⟨q.b,29,none⟩=some (.string al))
  (first | exact ⟨c17,c24,c29⟩ | exact ⟨gP c17,gP c24,gP c29⟩)
  (first
   | (go_at_call 132;refine (HK.out _ (by exact aa)).mono ?_;rintro e wq ⟨rfl,hbq⟩;replace c17:=dh hbq HC.out.1;replace c24:=dh hbq HC.out.2.1;replace c29:=dh hbq HC.out.2.2)
   | fail)
 go_wp2_with fail;go_ret;exact ⟨_,rfl,Blk.new _ _ _,hbq.trans ((az _).mono hbq.size),hbq.size⟩
end
section
variable {q : ClQ} {T T' : List Tm} {S S' : Nat → Prop} {s : bS} {z : TkP} {W W' : World}
def EvW (w:World) (n:Int) (us:List UInt8) (S:Nat→Prop) (o:Option (Int × Int × List UInt8)) (v:Value):Prop:=match o with
 | none=>v=.slice none 0 0
 | some (kd,who,alg)=>∃b,v=.slice (some ⟨b,0,none⟩) 1 1∧Blk w b 69 (evK kd who (bs us) (bs bA) (bs alg) n)∧¬ S b
def M4 (q:ClQ) (T:List Tm) (S:Nat→Prop) (z:TkP) (W:World) (o:bS × lh) (e:Ending) (w':World):Prop :=
 ∃ov er,e=.returned (.tuple #[ov,er])∧SK w' o.2.out ov∧ErV w' o.2.err er∧aI q T S o.1 z w'∧Grown (SB q.b q.b S) W (SB q.b q.b S) w'
def qE (q:ClQ) (T:List Tm) (S:Nat→Prop) (W:World) (m:Nat) (o:bS × lh) (e:Ending) (w':World):Prop :=
 ∃T' S' z' ev er,e=.returned (.tuple #[.string (bs o.2.out),ev,er])∧EvW w' q.n q.us S' o.2.ev ev∧ErV w' o.2.err er∧T <+: T'∧T'.length≤T.length+m∧aI q T' S' o.1 z' w'∧Grown (SB q.b q.b S) W (SB q.b q.b S') w'
@[go_sem] theorem Us (k n:Int) (s:ByteArray) (A:Option Addr) (m c:Nat) (w:World):(Instr.field 60 (.agg #[.int .u8 k,.int .i64 n,.string s,.slice A m c]) 3).run Tryz.prog w=.ok (.slice A m c) w:=by kernel_rfl
theorem vO.stp {m:Nat} {o:bS × lh} {e:Ending} {w' w0:World} (hb:Below W.heap.size W w0) (h:vO q T S z w0 100 o e w') (hm:100≤m) (hv:o.2.ev=none):∃er,e=.returned (.tuple #[.string (bs o.2.out),er])∧qE q T S W m o (.returned (.tuple #[.string (bs o.2.out),.slice none 0 0,er])) w':=by
 obtain ⟨T',S',er,e1,e2,e3,e4,e5,e6⟩:=h;exact ⟨er,e1,T',S',z,.slice none 0 0,er,rfl,by rw [hv];rfl,e2,e3,by omega,e5,((Grown.of_below hb).sb _ _).trans e6⟩
theorem Oz {num:Int} {l:List Fld} {s:bS} {ev:Option (Int × Int × List UInt8)}:(pK num l s ev).2.ev=none∨(pK num l s ev).2.ev=ev:=by
 unfold pK
 split
 ·exact .inr rfl
 ·split
  ·exact .inl rfl
  ·exact .inl rfl
theorem FR {us:List UInt8} {al:List (List UInt8)} {ky:List Int}:(jM us al ky s).2.ev=none:=by
 unfold jM
 split
 ·rfl
 ·split
  ·rfl
  ·rcases Oz (num:=50) with h | h <;> exact h
theorem lq {lo:Nat} {A:Option Addr} {c:Nat} {l:List Fld} (hF:dB lo W A l) (hl:l.length≤20) (num:Int) (i:Nat):Calls Tryz.prog 108 #[.agg #[.int .i64 num,.slice A l.length c],.int .i64 i] W (fun e w'=>(∃B d,e=.returned (.agg #[.int .u8 (atF l i).k,.int .i64 (atF l i).n,.string (bs (atF l i).s),.slice B (atF l i).l.length d])∧bG lo W (.slice B (atF l i).l.length d) (atF l i).l)∧Below W.heap.size W w'):=by
 by_cases hi:i<l.length
 ·obtain ⟨ad,B,d,rfl,_,_,hq,hN⟩:=hF.at_ (List.getElem?_eq_getElem hi)
  have ha:atF l i=l[i]:=by unfold atF;rw [List.getElem?_eq_getElem hi];rfl
  rw [ha]
  exact (zN (c:=c) num i hi hl l[i] hq).mono fun e w' h=>⟨⟨B,d,h.1,hN⟩,h.2⟩
 ·have ha:atF l i=⟨0,0,[],[]⟩:=by unfold atF;rw [List.getElem?_eq_none (by omega)];rfl
  rw [ha]
  exact (wM num i W (.inr (by omega))).mono fun e w' h=>⟨⟨none,0,h.1,gT lo W 0⟩,h.2⟩
theorem Ij {lo:Nat} {w w':World} {B:Option Addr} {n d:Nat} {l:List (List UInt8)} (h:bG lo w (.slice B n d) l) (hb:Below w.heap.size w w') (hq:q.b+1≤lo):nN (q.b+1) w'.heap.size w' (.slice B n d) l:=by
 obtain ⟨A',c',hv,_,hS⟩:=h;injection hv with e1 e2 e3;subst e1 e2 e3;exact nN.mk (hS.mono hq) hb.size (fun p _ h9=>hb.cell h9)
theorem BA {lo:Nat} {w:World} {v:Value} {l:List (List UInt8)} (h:bG lo w v l):Txs w v l:=by
 obtain ⟨A',c',rfl,_,hS⟩:=h;exact ⟨A',c',by simp,by simpa using hS.mono (Nat.zero_le _)⟩
theorem Jd (h:aI q T S s z W) (hp:s.ph≠0):Calls Tryz.prog 26 #[.pointer (some ⟨q.b,0,none⟩)] W (M4 q T S z W (Ex s)):=by
 have c25:=h.c25;have e0:(((s.ph:Nat):Int) != 0)=true:=by rw [bne_iff_ne];omega
 have E:=hide (show Ex s=({ s with ph:=5 },⟨[],none,some ([dm],7)⟩) from if_neg hp);have HA:=hide (j3 h (er:=.iface 43 (.int .i64 7)) (ps:=[]) (k:=7) rfl);generalize ((s.ph:Nat):Int)=p at c25 e0;clear h hp;go_enter Tryz.func26,Tryz.ntmps26;go_wp2_with fail;refine HA.out.mono ?_;rintro e w3 ⟨b,rfl,hi3,hM3,hG3⟩;have Hf:=hide (And.intro hi3 (And.intro hM3 hG3));clear hi3 hM3 hG3;go_wp2_with fail;go_ret2;rw [E.out];exact ⟨.slice none 0 0,aH b,rfl,⟨fun _=>rfl,fun h9=>absurd rfl h9⟩,Hf.out.1,Hf.out.2.1,Hf.out.2.2⟩
theorem DJ (h:aI q T S s z W) (hp:s.ph=0):Calls Tryz.prog 26 #[.pointer (some ⟨q.b,0,none⟩)] W (M4 q T S z W (Ex s)):=by
 have c25:=h.c25;rw [hp] at c25;have E:=hide (show Ex s=({ s with ph:=1 },⟨zh,none,none⟩) from if_pos hp);have HT:=hide (wE ⟨#[115,115,104,45,117,115,101,114,97,117,116,104]⟩ W);have HM:=hide h;clear h hp;go_enter Tryz.func26,Tryz.ntmps26;go_wp2_with fail;refine HT.out.mono ?_;rintro e w1 ⟨rfl,hb1⟩
 obtain ⟨w2,hw2⟩:∃W2,W2=w1.alloc (.cells #[.int .u8 115,.int .i64 0,.string ⟨#[115,115,104,45,117,115,101,114,97,117,116,104]⟩,.slice none 0 0] 60):=⟨_,rfl⟩
 have hb2:Below w1.heap.size w1 w2:=by rw [hw2];exact az _
 have hY:Blk w2 w1.heap.size 60 #[.int .u8 115,.int .i64 0,.string (bs ib),.slice none 0 0]:=by rw [hw2];exact Blk.new w1 _ _
 have HE:=hide (lN 5 (c:=1) (MU hY (by decide)) (fun x hx=>by
  simp only [List.mem_singleton] at hx;subst hx
  exact ⟨by decide,by simp,by simp⟩) (by simp))
 have Hb2:=hide (hb1.trans (hb2.mono hb1.size));clear hb1 hb2 hY c25;go_wp2_with fail;rw [←hw2];clear hw2;refine HE.out.mono ?_;rintro e w3 ⟨hb3,⟨qq,hq,rfl⟩ | ⟨b,ps,k,hk,rfl,_⟩⟩
 ·rw [yh] at hq
  cases hq
  have hb13:=Hb2.out.trans (hb3.mono Hb2.out.size);have hM3:=HM.out.below hb13;have c25:=hM3.c25;have f25:=hM3.cb.frz 25;generalize ((s.ph:Nat):Int)=p at c25;have hM4:=hM3.ph_ 1;have hG4:=hM3.gr_ 1 (.int .i64 1)
  obtain ⟨w4,hw4⟩:∃W4,W4=w3.setCell ⟨q.b,25,none⟩ (.int .i64 1):=⟨_,rfl⟩
  have hM5:aI q T S { s with ph:=1 } z w4:=by rw [hw4];exact hM4
  have hG5:Grown (SB q.b q.b S) w3 (SB q.b q.b S) w4:=by rw [hw4];exact hG4
  have HM5:=hide hM5;have HG5:=hide (((Grown.of_below hb13).sb q.b q.b).trans hG5);clear hb3 hb13 hM3 hM4 hG4 hM5 hG5;generalize hz:bs zh=zz;have Hz:=hide hz;clear hz;go_upto_region 9 with fail;rw [←hw4];clear hw4 c25 f25;go_wp2_with fail;go_ret2;rw [E.out];have hz:=Hz.out;subst hz;exact ⟨_,.nilIface,rfl,⟨(fun h9=>by cases h9),fun _=>⟨_,rfl,Blk.new _ _ _⟩⟩,rfl,HM5.out.below (az _),HG5.out.trans ((Grown.of_below (az _)).sb _ _)⟩
 ·rw [yh] at hk
  cases hk
theorem NR (h:aI q T S s z W) {lo:Nat} {A:Option Addr} {c:Nat} {l:List Fld} (HF:dB lo W A l) (hlo:∀i,S i→i<lo) (hqb:q.b<lo) (hln:l.length≤20) (hll:∀x∈l,x.l.length≤1000∧∀y∈x.l,y.length≤1000000) (hT:T.length≤690000) :
  Calls Tryz.prog 77 #[.pointer (some ⟨q.b,0,none⟩),.agg #[.int .i64 53,.slice A l.length c]] W (qE q T S W 15000 ((s,⟨[],none,none⟩))):=by
 obtain ⟨W0,hW0⟩:∃W0,W0=W.alloc (.cells #[.int .i64 53,.slice A l.length c] 55):=⟨_,rfl⟩
 have hb0:Below W.heap.size W W0:=by rw [hW0];exact az _
 have hX:Blk W0 W.heap.size 55 #[.int .i64 53,.slice A l.length c]:=by rw [hW0];exact Blk.new W _ _
 have m0:=hX.cell 0;have m1:=hX.cell 1;simp only [List.getElem?_toArray,List.getElem?_cons_zero,List.getElem?_cons_succ] at m0 m1;have HM0:=hide (h.below hb0);have HF0:=hide (HF.below hb0);have Hb0:=hide hb0;have hq1:q.b+1≤lo:=hqb;clear h hb0 hX HF;go_enter Tryz.func77,Tryz.ntmps77;go_upto_region 1 with fail;rw [←hW0];clear hW0;go_wp2_with fail;go_ret3;exact ⟨T,S,z,.slice none 0 0,.nilIface,rfl,rfl,rfl,List.prefix_refl _,by omega,HM0.out,(Grown.of_below Hb0.out).sb _ _⟩
theorem KC (h:aI q T S s z W) {lo:Nat} {A:Option Addr} {c:Nat} {l:List Fld} (HF:dB lo W A l) (hlo:∀i,S i→i<lo) (hqb:q.b<lo) (hln:l.length≤20) (hll:∀x∈l,x.l.length≤1000∧∀y∈x.l,y.length≤1000000) (hT:T.length≤690000) (hs:(atF l 0).s≠ib) :
  Calls Tryz.prog 77 #[.pointer (some ⟨q.b,0,none⟩),.agg #[.int .i64 6,.slice A l.length c]] W (qE q T S W 15000 (eZ s [Cq] 13)):=by
 obtain ⟨W0,hW0⟩:∃W0,W0=W.alloc (.cells #[.int .i64 6,.slice A l.length c] 55):=⟨_,rfl⟩
 have hb0:Below W.heap.size W W0:=by rw [hW0];exact az _
 have hX:Blk W0 W.heap.size 55 #[.int .i64 6,.slice A l.length c]:=by rw [hW0];exact Blk.new W _ _
 have m0:=hX.cell 0;have m1:=hX.cell 1;simp only [List.getElem?_toArray,List.getElem?_cons_zero,List.getElem?_cons_succ] at m0 m1;have HM0:=hide (h.below hb0);have HF0:=hide (HF.below hb0);have Hb0:=hide hb0;have hq1:q.b+1≤lo:=hqb;have HG:=hide (lq (c:=c) HF0.out hln 6 0);have es:(!((bs (atF l 0).s).toList == ([115,115,104,45,117,115,101,114,97,117,116,104]:List UInt8)))=true:=by rw [Bool.not_eq_true',aN,beq_eq_false_iff_ne];exact hs
 have HO:=hide (fun (V:World)=>bH ⟨#[115,101,114,118,105,99,101]⟩ 13 (by decide) V);clear hs;clear h hb0 hX HF;go_enter Tryz.func77,Tryz.ntmps77;go_upto_region 1 with fail;rw [←hW0];clear hW0;go_wp2_with fail;refine HG.out.mono ?_;rintro e w2 ⟨⟨B,d,rfl,hN⟩,hb2⟩;have HM2:=hide (HM0.out.below hb2);have Hb2:=hide (Hb0.out.trans (hb2.mono Hb0.out.size));clear HG;go_wp2_with fail;refine (HO.out _).mono ?_;rintro e w3 ⟨b,rfl,hi3,hb3⟩;have Hi:=hide (And.intro hi3 (Hb2.out.trans (hb3.mono Hb2.out.size)));have Hb23:=hide hb3;clear hi3 hb3;go_wp2_with fail;go_ret3;exact ⟨T,S,z,.slice none 0 0,aH b,rfl,rfl,Hi.out.1,List.prefix_refl _,by omega,HM2.out.below Hb23.out,(Grown.of_below Hi.out.2).sb _ _⟩
theorem Lc (h:aI q T S s z W) {lo:Nat} {A:Option Addr} {c:Nat} {l:List Fld} (HF:dB lo W A l) (hlo:∀i,S i→i<lo) (hqb:q.b<lo) (hln:l.length≤20) (hll:∀x∈l,x.l.length≤1000∧∀y∈x.l,y.length≤1000000) (hT:T.length≤690000) (hs:(atF l 0).s=ib) :
  Calls Tryz.prog 77 #[.pointer (some ⟨q.b,0,none⟩),.agg #[.int .i64 6,.slice A l.length c]] W (qE q T S W 15000 (jM q.us q.al q.ky s)):=by
 obtain ⟨W0,hW0⟩:∃W0,W0=W.alloc (.cells #[.int .i64 6,.slice A l.length c] 55):=⟨_,rfl⟩
 have hb0:Below W.heap.size W W0:=by rw [hW0];exact az _
 have hX:Blk W0 W.heap.size 55 #[.int .i64 6,.slice A l.length c]:=by rw [hW0];exact Blk.new W _ _
 have m0:=hX.cell 0;have m1:=hX.cell 1;simp only [List.getElem?_toArray,List.getElem?_cons_zero,List.getElem?_cons_succ] at m0 m1;have HM0:=hide (h.below hb0);have HF0:=hide (HF.below hb0);have Hb0:=hide hb0;have hq1:q.b+1≤lo:=hqb;have HG:=hide (lq (c:=c) HF0.out hln 6 0);have es:(!((bs (atF l 0).s).toList == ([115,115,104,45,117,115,101,114,97,117,116,104]:List UInt8)))=false:=by rw [aN,hs];rfl
 clear hs;clear h hb0 hX HF;go_enter Tryz.func77,Tryz.ntmps77;go_upto_region 1 with fail;rw [←hW0];clear hW0;go_wp2_with fail;refine HG.out.mono ?_;rintro e w2 ⟨⟨B,d,rfl,hN⟩,hb2⟩;have HM2:=hide (HM0.out.below hb2);have Hb2:=hide (Hb0.out.trans (hb2.mono Hb0.out.size));have HQ:=hide (uu HM2.out (by omega:T.length≤700000000));clear HG;go_wp2_with fail;refine HQ.out.mono ?_;rintro e w3 hQ;obtain ⟨er,rfl,hR⟩:=hQ.stp Hb2.out (m:=15000) (by decide) FR;have HR:=hide hR;clear hQ hR HQ;generalize hz:bs (jM q.us q.al q.ky s).2.out=zz;have Hz:=hide hz;clear hz;go_wp2_with fail;go_ret3;have hz:=Hz.out;subst hz;exact HR.out
theorem JP (h:aI q T S s z W) {lo:Nat} {A:Option Addr} {c:Nat} {l:List Fld} (HF:dB lo W A l) (hlo:∀i,S i→i<lo) (hqb:q.b<lo) (hln:l.length≤20) (hll:∀x∈l,x.l.length≤1000∧∀y∈x.l,y.length≤1000000) (hT:T.length≤690000) (hs:dG ∉ (atF l 0).l) :
  Calls Tryz.prog 77 #[.pointer (some ⟨q.b,0,none⟩),.agg #[.int .i64 51,.slice A l.length c]] W (qE q T S W 15000 (eZ s [kC] 12)):=by
 obtain ⟨W0,hW0⟩:∃W0,W0=W.alloc (.cells #[.int .i64 51,.slice A l.length c] 55):=⟨_,rfl⟩
 have hb0:Below W.heap.size W W0:=by rw [hW0];exact az _
 have hX:Blk W0 W.heap.size 55 #[.int .i64 51,.slice A l.length c]:=by rw [hW0];exact Blk.new W _ _
 have m0:=hX.cell 0;have m1:=hX.cell 1;simp only [List.getElem?_toArray,List.getElem?_cons_zero,List.getElem?_cons_succ] at m0 m1;have HM0:=hide (h.below hb0);have HF0:=hide (HF.below hb0);have Hb0:=hide hb0;have hq1:q.b+1≤lo:=hqb;have HG:=hide (lq (c:=c) HF0.out hln 51 0)
 have hll2:∀i,(atF l i).l.length≤1000∧∀y∈(atF l i).l,y.length≤1000000:=fun i=>by
  unfold atF
  cases hx:l[i]? with
  | none=>exact ⟨Nat.zero_le _,fun y hy=>by cases hy⟩
  | some x=>exact hll x (List.mem_of_getElem? hx)
 have HO:=hide (fun (V:World)=>bH ⟨#[119,97,121,115]⟩ 12 (by decide) V);clear h hb0 hX HF;go_enter Tryz.func77,Tryz.ntmps77;go_upto_region 1 with fail;rw [←hW0];clear hW0;go_wp2_with fail;refine HG.out.mono ?_;rintro e w2 ⟨⟨B,d,rfl,hN⟩,hb2⟩;have HM2:=hide (HM0.out.below hb2);have Hb2:=hide (Hb0.out.trans (hb2.mono Hb0.out.size));have HH:=hide (pg (BA hN |>.below hb2) (by have:=(hll2 0).1;omega) dG);rw [show bs dG=⟨#[112,117,98,108,105,99,107,101,121]⟩ from rfl] at HH;rw [decide_eq_false hs] at HH;clear HG hs hN hll2;go_wp2_with fail;refine HH.out.mono ?_;rintro e w2' ⟨rfl,rfl⟩;go_wp2_with fail;refine (HO.out _).mono ?_;rintro e w3 ⟨b,rfl,hi3,hb3⟩;have Hi:=hide (And.intro hi3 (Hb2.out.trans (hb3.mono Hb2.out.size)));have Hb23:=hide hb3;clear hi3 hb3;go_wp2_with fail;go_ret3;exact ⟨T,S,z,.slice none 0 0,aH b,rfl,rfl,Hi.out.1,List.prefix_refl _,by omega,HM2.out.below Hb23.out,(Grown.of_below Hi.out.2).sb _ _⟩
theorem Hm (h:aI q T S s z W) {lo:Nat} {A:Option Addr} {c:Nat} {l:List Fld} (HF:dB lo W A l) (hlo:∀i,S i→i<lo) (hqb:q.b<lo) (hln:l.length≤20) (hll:∀x∈l,x.l.length≤1000∧∀y∈x.l,y.length≤1000000) (hT:T.length≤690000) (hs:dG∈(atF l 0).l) :
  Calls Tryz.prog 77 #[.pointer (some ⟨q.b,0,none⟩),.agg #[.int .i64 51,.slice A l.length c]] W (qE q T S W 15000 (jM q.us q.al q.ky s)):=by
 obtain ⟨W0,hW0⟩:∃W0,W0=W.alloc (.cells #[.int .i64 51,.slice A l.length c] 55):=⟨_,rfl⟩
 have hb0:Below W.heap.size W W0:=by rw [hW0];exact az _
 have hX:Blk W0 W.heap.size 55 #[.int .i64 51,.slice A l.length c]:=by rw [hW0];exact Blk.new W _ _
 have m0:=hX.cell 0;have m1:=hX.cell 1;simp only [List.getElem?_toArray,List.getElem?_cons_zero,List.getElem?_cons_succ] at m0 m1;have HM0:=hide (h.below hb0);have HF0:=hide (HF.below hb0);have Hb0:=hide hb0;have hq1:q.b+1≤lo:=hqb;have HG:=hide (lq (c:=c) HF0.out hln 51 0)
 have hll2:∀i,(atF l i).l.length≤1000∧∀y∈(atF l i).l,y.length≤1000000:=fun i=>by
  unfold atF
  cases hx:l[i]? with
  | none=>exact ⟨Nat.zero_le _,fun y hy=>by cases hy⟩
  | some x=>exact hll x (List.mem_of_getElem? hx)
 clear h hb0 hX HF;go_enter Tryz.func77,Tryz.ntmps77;go_upto_region 1 with fail;rw [←hW0];clear hW0;go_wp2_with fail;refine HG.out.mono ?_;rintro e w2 ⟨⟨B,d,rfl,hN⟩,hb2⟩;have HM2:=hide (HM0.out.below hb2);have Hb2:=hide (Hb0.out.trans (hb2.mono Hb0.out.size));have HH:=hide (pg (BA hN |>.below hb2) (by have:=(hll2 0).1;omega) dG);rw [show bs dG=⟨#[112,117,98,108,105,99,107,101,121]⟩ from rfl] at HH;rw [decide_eq_true hs] at HH;clear hs hN hll2;go_wp2_with fail;refine HH.out.mono ?_;rintro e w2' ⟨rfl,rfl⟩;have HQ:=hide (uu HM2.out (by omega:T.length≤700000000));clear HG;go_wp2_with fail;refine HQ.out.mono ?_;rintro e w3 hQ;obtain ⟨er,rfl,hR⟩:=hQ.stp Hb2.out (m:=15000) (by decide) FR;have HR:=hide hR;clear hQ hR HQ;generalize hz:bs (jM q.us q.al q.ky s).2.out=zz;have Hz:=hide hz;clear hz;go_wp2_with fail;go_ret3;have hz:=Hz.out;subst hz;exact HR.out
theorem PG (h:aI q T S s z W) {lo:Nat} {A:Option Addr} {c:Nat} {l:List Fld} (HF:dB lo W A l) (hlo:∀i,S i→i<lo) (hqb:q.b<lo) (hln:l.length≤20) (hll:∀x∈l,x.l.length≤1000∧∀y∈x.l,y.length≤1000000) (hT:T.length≤690000) :
  Calls Tryz.prog 77 #[.pointer (some ⟨q.b,0,none⟩),.agg #[.int .i64 7,.slice A l.length c]] W (qE q T S W 15000 (uS (atF l 0).l s)):=by
 obtain ⟨W0,hW0⟩:∃W0,W0=W.alloc (.cells #[.int .i64 7,.slice A l.length c] 55):=⟨_,rfl⟩
 have hb0:Below W.heap.size W W0:=by rw [hW0];exact az _
 have hX:Blk W0 W.heap.size 55 #[.int .i64 7,.slice A l.length c]:=by rw [hW0];exact Blk.new W _ _
 have m0:=hX.cell 0;have m1:=hX.cell 1;simp only [List.getElem?_toArray,List.getElem?_cons_zero,List.getElem?_cons_succ] at m0 m1;have HM0:=hide (h.below hb0);have HF0:=hide (HF.below hb0);have Hb0:=hide hb0;have hq1:q.b+1≤lo:=hqb;have HG:=hide (lq (c:=c) HF0.out hln 7 0)
 have hll2:∀i,(atF l i).l.length≤1000∧∀y∈(atF l i).l,y.length≤1000000:=fun i=>by
  unfold atF
  cases hx:l[i]? with
  | none=>exact ⟨Nat.zero_le _,fun y hy=>by cases hy⟩
  | some x=>exact hll x (List.mem_of_getElem? hx)
 clear h hb0 hX HF;go_enter Tryz.func77,Tryz.ntmps77;go_upto_region 1 with fail;rw [←hW0];clear hW0;go_wp2_with fail;refine HG.out.mono ?_;rintro e w2 ⟨⟨B,d,rfl,hN⟩,hb2⟩;have HM2:=hide (HM0.out.below hb2);have Hb2:=hide (Hb0.out.trans (hb2.mono Hb0.out.size));have HX:=hide (KS HM2.out (Ij (q:=q) hN hb2 hq1) (hll2 0).1 (hll2 0).2);clear HG hN hll2;unfold Sy at HX;generalize hxo:uS (atF l 0).l s=xo at HX ⊢
 have hev:xo.2.out=[]∧xo.2.ev=none:=by
  rw [←hxo];unfold uS
  split <;> exact ⟨rfl,rfl⟩
 have Hxo:=hide hxo;clear hxo;obtain ⟨s2,out,ev,err⟩:=xo;obtain ⟨h1,h2⟩:=hev;simp only at h1 h2;subst h1 h2;go_wp2_with fail;refine HX.out.mono ?_;rintro e w3 ⟨z',er,rfl,her,hM3,hG3⟩;have Hf:=hide (And.intro hM3 (((Grown.of_below Hb2.out).sb q.b q.b).trans hG3));clear hM3 hG3 HX
 cases err with
 | none =>
  have her2:er=.nilIface:=her;subst her2;clear her;go_wp2_with fail;go_ret3;rw [Hxo.out];exact ⟨T,S,z',.slice none 0 0,.nilIface,rfl,rfl,rfl,List.prefix_refl _,by omega,Hf.out.1,Hf.out.2⟩
 | some x =>
  obtain ⟨ps,k⟩:=x;have Her:=hide her;obtain ⟨te,ue,rfl⟩:=aT.shape her;clear her;go_wp2_with fail;go_ret3;rw [Hxo.out];exact ⟨T,S,z',.slice none 0 0,_,rfl,rfl,Her.out,List.prefix_refl _,by omega,Hf.out.1,Hf.out.2⟩
end
end Go.Proofs.YtnhekaepgpbijaaGreatDoor
