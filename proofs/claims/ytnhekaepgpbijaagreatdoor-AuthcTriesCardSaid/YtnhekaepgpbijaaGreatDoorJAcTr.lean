/-
  AuthcTries' walk. Conditions: the listed variables are there.
-/
import Derived.Test.YtnhekaepgpbijaaGreatDoorJAcIG
import Derived.Test.YtnhekaepgpbijaaGreatDoorJAuApG
import Derived.Test.YtnhekaepgpbijaaGreatDoorJAcMG
import Derived.Test.YtnhekaepgpbijaaGreatDoorJAuP
import Derived.Test.YtnhekaepgpbijaaGreatDoorJSignCG
import Derived.Test.YtnhekaepgpbijaaGreatDoorJCfKG
import Derived.Test.YtnhekaepgpbijaaGreatDoorJCfLcG
import Derived.Test.YtnhekaepgpbijaaGreatDoorJAcKG
import Derived.Test.YtnhekaepgpbijaaGreatDoorJAcRq
import Derived.BigGuardPart
import Derived.Deep.RegionHeld3
import Derived.WalkMore
import Derived.Deep.DeepCutAuto
set_option linter.unusedVariables false
set_option linter.unusedSimpArgs false
set_option maxHeartbeats 40000000
set_option maxRecDepth 100000
namespace Go.Proofs.YtnhekaepgpbijaaGreatDoor
open Go.RowKit Go.ChangeShapes Go.WideShapes Go.Sort
def JM (al tk:List (List UInt8)) (told:Bool):Option (List UInt8):=if told=true then jk al tk else al.head?
def TrQ (xb:Nat) (u0:ByteArray) (ak:Addr) (kn kc i:Nat) (who:Int) (V:World):Prop:=V.cell? ⟨xb,16,none⟩=some (.string u0)∧V.cell? ⟨xb,17,none⟩=some (.slice (some ak) kn kc)∧V.cell? (ak.add i)=some (.int .i64 who)
theorem TrQ.below {xb:Nat} {u0:ByteArray} {ak:Addr} {kn kc i:Nat} {who:Int} {V V':World} (h:TrQ xb u0 ak kn kc i who V) (hb:Below V.heap.size V V'):TrQ xb u0 ak kn kc i who V':=⟨dh hb h.1,dh hb h.2.1,dh hb h.2.2⟩
theorem tJ {P:Program} {Q:Exit→Act→World→Prop} {ops:Array Oper} {o:Oper} {a:Act} {w w':World} {v:Value} {K:Act→World→Prop} {F:Prop} (hw:Region.wanted o (yielded ops a.tmps)=true)
  (hr:(execOp a.eval o).run P w=.ok (.value v) w') (h:K (a.put o.dst v) w'):if Region.wanted o (yielded ops a.tmps)=true then Oper.wp P o a w K Q else F:=by
 rw [if_pos hw];unfold Oper.wp;rw [hr];exact h
theorem OI {tk:List (List UInt8)} (h:(bv tk).length≤3000):∀x∈lQ tk,SzF x:=by
 intro x hx;simp only [lQ,List.mem_singleton] at hx;subst hx;refine ⟨by simp,by simp,fun y hy=>?_⟩;simp only [List.mem_cons,List.not_mem_nil,or_false] at hy;rcases hy with rfl | rfl
 ·decide
 ·omega
theorem Fa (i:Nat):(bs (o9 i)).size≤3000:=by
 rw [aR];unfold o9
 split <;> decide
theorem TrS.t {al:List (List UInt8)} {o:Option (List UInt8)} {i:Nat} {s:bS} (h:TrS al o i s):s.ph=2∨s.ph=3→1≤s.tried:=by
 have h1:=h.ph;have h2:=h.tr;intro h9
 split at h1 <;> omega
theorem CfP.fw_ky {c:CfP} (hf:c.fw=true):c.ky.length≤20:=by
 unfold CfP.fw iH at hf;simp only [Bool.and_eq_true,decide_eq_true_eq] at hf;obtain ⟨⟨⟨⟨⟨⟨⟨⟨_,h2⟩,h3⟩,h4⟩,_⟩,_⟩,_⟩,_⟩,_⟩:=hf;exact h4
theorem Om {who:Int} (h:okN who=true):fI who=txt (gG (dW who))∧(txt (gG (dW who))).length≤1000:=by
 obtain ⟨p,hp,hb,_,hpb,_⟩:=Py h
 have h2:fI who=txt (gG (dW who)):=by
  rw [hp]
  have hk:p.k≠1:=by
   intro e;unfold Ti at hpb;simp_all
  rw [Dh hk] at hb;exact (Option.some.inj hb).symm
 exact ⟨h2,by rw [←h2];have:=ow who;omega⟩
theorem Nf {tk:List (List UInt8)} {x:ByteArray} (h:bs (bv tk)=x) (W:World):kR ((W.alloc (.cells #[.string ⟨#[115,101,114,118,101,114,45,115,105,103,45,97,108,103,115]⟩,.string x] 9)).alloc (.cells #[.int .u8 101,.int .i64 0,.string ⟨#[]⟩,.slice (some ⟨W.heap.size,0,none⟩) 2 2] 60)) (some ⟨W.heap.size+1,0,none⟩) (lQ tk):=by
 subst h;have hs2:=(Blk.new W 9 #[.string ⟨#[115,101,114,118,101,114,45,115,105,103,45,97,108,103,115]⟩,.string (bs (bv tk))]).alloc (.cells #[.int .u8 101,.int .i64 0,.string ⟨#[]⟩,.slice (some ⟨W.heap.size,0,none⟩) 2 2] 60);have hf:=Blk.new (W.alloc (.cells #[.string ⟨#[115,101,114,118,101,114,45,115,105,103,45,97,108,103,115]⟩,.string (bs (bv tk))] 9)) 60 #[.int .u8 101,.int .i64 0,.string ⟨#[]⟩,.slice (some ⟨W.heap.size,0,none⟩) 2 2];rw [World.size_alloc] at hf;have ht:=OJ (ls:=[iU,bv tk]) hs2 2;refine ⟨fun i y hy=>?_⟩
 match i,hy with
 | 0,hy =>
  obtain rfl:=Option.some.inj hy;have c0:=hf.cell 0;have c1:=hf.cell 1;have c2:=hf.cell 2;have c3:=hf.cell 3;exact ⟨⟨W.heap.size+1,0,none⟩,.slice (some ⟨W.heap.size,0,none⟩) 2 2,rfl,hf.lt,c0,c1,c2,c3,⟨ht,_,_,rfl,show (2:Nat)≤2 by decide⟩,show (101:Nat)<256 by decide⟩
 | i+1,hy=>simp [lQ] at hy
section
variable {w : World}
theorem rZ (hT:Tab w) (hMx:jq w) (hMe:fC w) (hWo:gJ w) (hH:Hand w) (c:CfP) (hc:c.W w) (sid:ByteArray) (hsd:sid.size≤maxLen) {A:Option Addr} {d:Nat} {tk:List (List UInt8)} (htk:Txs w (.slice A tk.length d) tk) (htl:tk.length≤maxLen) (htz:∀x∈tk,x.length≤maxLen) (tell:Bool) :
  Calls Tryz.prog 5 #[.agg (c.cells++#[Value.string sid]),.slice A tk.length d,.bool tell] w (fun e w'=>e=.returned (.bool true)∧Below w.heap.size w w'):=by
 obtain ⟨cv,hce,hcv⟩:=Bi c;have p16:cv[16]?=some (.string (bs c.us)):=by rw [←hce];rfl
 have p17:cv[17]?=some (.slice c.A10 c.ky.length c.c10):=by rw [←hce];rfl
 have p11:=hcv.p11;rw [hce];clear hce
 obtain ⟨W0,hW0⟩:∃W0,W0=w.alloc (.cells (cv++#[Value.string sid]) 32):=⟨_,rfl⟩
 have hb0:Below w.heap.size w W0:=by rw [hW0];exact az _
 have hX:StC W0 w.heap.size cv sid:=⟨by rw [hW0];exact Blk.new w _ _,hcv.len⟩
 have HF:=hide (show Calls Tryz.prog 6 #[.agg (cv++#[Value.string sid]),.slice none 0 0] W0 (fun e w'=>e=.returned (.bool (K9 c sid []))∧Below W0.heap.size W0 w') from IM c (hc.below hb0) hcv sid hsd (A:=none) (d:=0) (l:=[]) (fun k hk=>absurd hk (Nat.not_lt_zero k)) (Nat.zero_le _) (fun x hx=>by cases hx));have HAw:=hide (fun (V:World) (hb:Below w.heap.size w V)=>Cx (hT.below hb) (hMx.below hb) (hMe.below hb) (hWo.below hb));have HV:=hide (fun (V:World) (hb:Below w.heap.size w V)=>And.intro (And.intro (hT.below hb) (hMx.below hb)) (And.intro (hMe.below hb) (And.intro (hWo.below hb) (And.intro (hc.below hb) (And.intro (htk.below hb) (hH.below hb))))));have Hcv:=hide hcv;have HX:=hide (And.intro hb0 hX);generalize hcx:cv++#[Value.string sid]=cx at hW0 HF;clear hT hMx hMe hWo hc htk hcv hb0 hH
 cases hf:K9 c sid [] with
 | false =>
  rw [hf] at HF;clear hf p16 p17 p11;go_enter Tryz.func5,Tryz.ntmps5;go_upto_region 1 with fail;rw [←hW0];clear hW0;have hX:=HX.out.2;refine wp_region_lit ?_;refine iT (by rfl) (.tmp 3) rfl (by rfl) hX ?_;rw [hcx]
  try simp only [Act.put,List.setIfInBounds_toArray,List.set_cons_zero,List.set_cons_succ]
  refine bM (f:=6) (by rfl) (by first | rfl | go_simp) HF.out ?_;rintro e w1 ⟨rfl,hb1⟩;refine ⟨_,rfl,?_⟩
  try simp only [Act.put,List.setIfInBounds_toArray,List.set_cons_zero,List.set_cons_succ]
  have Hb1:=hide (HX.out.1.trans (hb1.mono HX.out.1.size));clear hb1 hX HF HX hcx;go_wp2_with fail;refine (HAw.out _ Hb1.out).mono ?_;rintro e w2 ⟨rfl,hb2⟩;go_wp2_with fail;go_ret;exact ⟨rfl,Hb1.out.trans (hb2.mono Hb1.out.size)⟩
 | true =>
  rw [hf] at HF
  have hfw:c.fw=true∧sid.size≤300:=by
   unfold K9 at hf;simp only [Bool.and_eq_true,decide_eq_true_eq] at hf;exact ⟨hf.1.1.2,hf.1.2⟩
  clear hf;go_enter Tryz.func5,Tryz.ntmps5;go_upto_region 1 with fail;rw [←hW0];clear hW0;have hX:=HX.out.2;refine wp_region_lit ?_;refine iT (by rfl) (.tmp 3) rfl (by rfl) hX ?_;rw [hcx]
  try simp only [Act.put,List.setIfInBounds_toArray,List.set_cons_zero,List.set_cons_succ]
  refine bM (f:=6) (by rfl) (by first | rfl | go_simp) HF.out ?_;rintro e w1 ⟨rfl,hb1⟩;refine ⟨_,rfl,?_⟩
  try simp only [Act.put,List.setIfInBounds_toArray,List.set_cons_zero,List.set_cons_succ]
  have Hb1:=hide (HX.out.1.trans (hb1.mono HX.out.1.size));have HX1:=hide (HX.out.2.below hb1);have hlt:w.heap.size<w1.heap.size:=HX1.out.blk.lt;clear hb1 hX HF HX
  by_cases h20:tk.length≤20
  ·have h20i:¬ (20:Int)<tk.length:=by omega
   obtain ⟨A',c',hv',hA⟩:=(HV.out _ Hb1.out).2.2.2.2.1.open_;obtain ⟨rfl,rfl⟩:A'=A∧c'=d:=by injection hv' with e1 _ e2;exact ⟨e1.symm,e2.symm⟩
   have HA:=hide hA;clear hv' hA;go_wp2_with fail
   go_loop [7] (fun i=>∃k:Nat,k≤tk.length∧i=.int .i64 k∧Hid (∀x∈tk.take k,x.length≤100)) (fun i=>tk.length - (intOf i).toNat)
   case atStart=>exact ⟨0,Nat.zero_le _,rfl,hide (by simp)⟩
   case round =>
    obtain ⟨k,hk,rfl,HL⟩:=hrel
    by_cases hkt:k<tk.length
    ·have hkI:(k:Int)<tk.length:=by omega
     obtain ⟨ad,rfl,had,hc0⟩:=HA.out k hkt
     by_cases h100:tk[k].length≤100
     ·have hs:¬ (100:Int)<((bs tk[k]).size:Nat):=by rw [aR];omega
      have HL2:=hide (show ∀x∈tk.take (k+1),x.length≤100 from by
       intro x hx;rw [List.take_succ_eq_append_getElem hkt] at hx;rcases List.mem_append.1 hx with hx | hx
       ·exact HL.out x hx
       ·simp only [List.mem_singleton] at hx
        subst hx
        exact h100)
      generalize bs tk[k]=x at hc0 hs;clear h100 HL HA;go_wp2_with fail;go_round
      case rel=>exact ⟨k+1,hkt,by go_num,HL2⟩
      case measure=>simp [intOf];omega
     ·have hs:(100:Int)<((bs tk[k]).size:Nat):=by rw [aR];omega
      generalize bs tk[k]=x at hc0 hs;clear h100 HL HA;go_wp2_with fail;refine (HAw.out _ Hb1.out).mono ?_;rintro e w2 ⟨rfl,hb2⟩;go_wp2_with fail;go_ret;exact ⟨rfl,Hb1.out.trans (hb2.mono Hb1.out.size)⟩
    ·have hkI:¬ (k:Int)<tk.length:=by omega
     have HL2:=hide (show ∀x∈tk,x.length≤100 from fun x hx=>HL.out x (by rw [List.take_of_length_le (by omega)];exact hx));obtain rfl:k=tk.length:=by omega
     clear HL HA;have HN:=hide (yo w1)
     go_upto_region 9 with (first
      | (go_at_call 8;refine HN.out.mono ?_;rintro e w2 ⟨g,S,rfl,hA,hb2⟩)
      | fail)
     have HP:=hide (Pay.new (HV.out _ Hb1.out).1.1 (HV.out _ Hb1.out).1.2 (Below.refl _ _) hA hb2);have hX2:=HX1.out.below hb2;have hb12:=Hb1.out.trans (hb2.mono Hb1.out.size);have HS:=hide (AB c Hcv.out (HV.out _ Hb1.out).2.1 (HV.out _ Hb1.out).2.2.1 ((HV.out _ Hb1.out).2.2.2.1.m hfw.1) hfw.1 (HV.out _ Hb1.out).2.2.2.1.u0 (HV.out _ Hb1.out).2.2.2.1.u1 (HV.out _ Hb1.out).2.2.2.1.u2 HP.out (by simp) sid hfw.2);have hltg:w.heap.size<w2.heap.size:=hX2.blk.lt;clear hA hb2 HN;refine wp_region_lit ?_;refine iT (by rfl) (.tmp 3) rfl (by rfl) hX2 ?_;rw [hcx]
     try simp only [Act.put,List.setIfInBounds_toArray,List.set_cons_zero,List.set_cons_succ]
     refine aM (v:=.pointer (some ⟨g,0,none⟩)) (w':=w2) (by rfl) (by first | rfl | go_simp) ?_
     try simp only [Act.put,List.setIfInBounds_toArray,List.set_cons_zero,List.set_cons_succ]
     rw [←hcx];refine bM (f:=9) (by rfl) (by first | rfl | go_simp) HS.out ?_;rintro e w3 ⟨n,p,er,bq,y,T3,S3,rfl,hy,hR⟩;refine ⟨_,rfl,?_⟩
     try simp only [Act.put,List.setIfInBounds_toArray,List.set_cons_zero,List.set_cons_succ]
     have HR:=hide hR;clear hR hy HS hX2 hb12
     try rw [hcx]
     clear hcx;generalize pz (fB c (sid.toList == ([]:List UInt8)))=kk;rcases eD (fB c (sid.toList == ([]:List UInt8))) with he | ⟨⟨ps,k⟩,he⟩
     ·have her:=HR.out.er
      rw [he] at her;have her':er=.nilIface:=her;subst her';obtain ⟨hce,hcs,hcn⟩:=PX he;obtain ⟨lo,b,P,A8,c8,A10,c10,hlo,hbq,rfl,hM3⟩:=HR.out.ok he
      obtain ⟨w4,hw4⟩:∃W4,W4=w3.alloc (.cells #[.int .i64 kk,.string y] 45):=⟨_,rfl⟩
      have hb4:Below w3.heap.size w3 w4:=by rw [hw4];exact az _
      have hM4:=hM3.below hb4;have hl3:T3.length≤2:=by have:=HR.out.len;simpa using this
      have HM4:=hide hM4;have HZ:=hide (CfP.ky_ok hce hcs);clear hM3 hb4 hM4 her hce hcs hcn HR he hlo hbq;go_upto_region 10 with fail;rw [←hw4];clear hw4;have hbw4:=Hb1.out.trans (HM4.out.pay.bel.mono Hb1.out.size);have x11:=(HX1.out.below HM4.out.pay.bel).at_ p11;obtain ⟨B',d',hvB,hB⟩:=(HV.out _ hbw4).2.2.2.1.cw.hal.open_;obtain ⟨eB,ed⟩:B'=c.A8∧d'=c.c8:=by injection hvB with e1 _ e2;exact ⟨e1.symm,e2.symm⟩
      have hal1:0<c.al.length:=HM4.out.ok.al1;obtain ⟨aB,hBa,haB,cB⟩:=hB 0 hal1;rw [oD] at cB;rw [←eB,hBa] at x11;have hhd:c.al.head?=some c.al[0]:=by rw [List.head?_eq_getElem?,List.getElem?_eq_getElem hal1]
      have HS5:=hide (sG HM4.out);have hal0:(0:Int)<c.al.length:=by omega
      unfold M4 at HS5;generalize c.al[0]=a0 at cB hhd;clear hvB hB eB ed hBa
      go_upto_region 14 with (first
       | (go_at_call 26;refine HS5.out.mono ?_;rintro e w5 ⟨ov5,er5,rfl,-,-,hM5,-⟩)
       | fail)
      rw [show (Ex ⟨0,false,[],0,[]⟩).1=⟨1,false,[],0,[]⟩ from rfl] at hM5;have HM5:=hide hM5;have hbw5:=Hb1.out.trans (hM5.pay.bel.mono Hb1.out.size);have HWr:=hide (uD ((HV.out _ hbw5).2.2.2.2.1) (fun y hy=>by have:=HL2.out y hy;omega))
      obtain ⟨tl,htl2⟩:∃tl,tl=(tell && decide (bF tk=0)):=⟨_,rfl⟩
      clear hM5 HM4 HS5 x11 cB haB hal0 hal1 hbw4;go_cut [89] (fun v wx=>v=.bool tl∧w5=wx)
      case first =>
       as_aux_lemma =>
        cases tell with
        | false =>
         go_wp2_with fail;go_meet;exact ⟨by rw [htl2];rfl,rfl⟩
        | true =>
         by_cases hw:bF tk=0
         ·rw [hw] at HWr
          go_wp2_with (first | (go_at_call 27;refine HWr.out.mono ?_;rintro e w6 ⟨rfl,rfl⟩) | fail);go_meet;exact ⟨by rw [htl2,hw];rfl,rfl⟩
         ·have e0:(((bF tk:Nat):Int) == 0)=false:=by rw [beq_eq_false_iff_ne];omega
          generalize ((bF tk:Nat):Int)=wk at HWr e0;go_wp2_with (first | (go_at_call 27;refine HWr.out.mono ?_;rintro e w6 ⟨rfl,rfl⟩) | fail);go_meet;exact ⟨by rw [htl2,decide_eq_false hw];rfl,rfl⟩
      case rest =>
       obtain ⟨rfl,rfl⟩:=hcut
       have htl3:tl=true→bF tk=0:=by
        intro h9;rw [htl2,Bool.and_eq_true,decide_eq_true_eq] at h9;exact h9.2
       clear htl2 HWr;go_upto_if 89 with fail;go_cut [14,15] (fun v14 v15 wx=>v14=.string (bs ((JM c.al tk tl).getD []))∧v15=.bool (JM c.al tk tl).isSome∧Hid (∃T S' s z,aI ⟨w1,w1.heap.size,g,lo,b,P,A8,c8,c.al,A10,c10,c.ky,c.us,n,il sid⟩ T S' s z wx∧T.length≤20000∧TrS c.al (JM c.al tk tl) 0 s))
       case first =>
        as_aux_lemma =>
         cases tl with
         | false =>
          go_wp2_with fail;go_meet;exact ⟨by unfold JM;rw [if_neg (by decide),hhd];rfl,by unfold JM;rw [if_neg (by decide),hhd];rfl,hide ⟨T3,S3,_,_,HM5.out,by omega,⟨rfl,rfl,rfl⟩⟩⟩
         | true =>
          have hw:=htl3 rfl;obtain ⟨b7,he7,hd7,hz7⟩:=Qi (tk:=tk) (by have:=ui (n:=100) HL2.out;have:tk.length*(100+1)≤20*(100+1):=Nat.mul_le_mul_right _ h20;omega);have HJ:=hide (wK ((HV.out _ hbw5).2.2.2.2.1) hw)
          have HEn:=hide (fun (V:World) (Ab:Addr) (hF:kR V (some Ab) (lQ tk))=>show Calls Tryz.prog 28 #[.agg #[.int .i64 7,.slice (some Ab) 1 1]] V (fun e w'=>e=.returned (.tuple #[.string (bs b7),.agg #[.int .i64 0,.string ⟨#[]⟩]])∧Below V.heap.size V w') from
           (nW 7 (c:=1) hF (OI (by have:=ui (n:=100) HL2.out;have:tk.length*(100+1)≤20*(100+1):=Nat.mul_le_mul_right _ h20;omega)) (by simp [lQ])).mono fun e w' h9=>by
            obtain ⟨hb9,⟨s9,h8,rfl⟩ | ⟨ps9,k9,h8,h7,rfl⟩⟩:=h9
            ·rw [he7] at h8
             cases h8
             exact ⟨rfl,hb9⟩
            ·rw [he7] at h8
             cases h8)
          have HTk:=hide (fun (V:World) (hb:Below w5.heap.size w5 V)=>show Calls Tryz.prog 30 #[.pointer (some ⟨b,0,none⟩),.string (bs b7)] V (vQ ⟨w1,w1.heap.size,g,lo,b,P,A8,c8,c.al,A10,c10,c.ky,c.us,n,il sid⟩ T3 S3 V (⟨1,true,tk,0,[]⟩,⟨[],none,none⟩)) from by
           have h9:=mi (HM5.out.below hb) (bs b7) (by rw [aR];omega) (by omega) (fun h8=>by rcases h8 with h8 | h8 <;> cases h8);rw [aU,Qc hd7 hw rfl] at h9
           exact h9)
          have HFi:=hide (fun (V:World) (hb:Below w1.heap.size w1 V)=>yT (HV.out _ (Hb1.out.trans (hb.mono Hb1.out.size))).2.2.2.1.cw.hal ((HV.out _ (Hb1.out.trans (hb.mono Hb1.out.size))).2.2.2.1.m hfw.1).all ((HV.out _ (Hb1.out.trans (hb.mono Hb1.out.size))).2.2.2.2.1) (by omega));have HXA:=hide (fun (V:World) (hb:Below w1.heap.size w1 V)=>(HX1.out.below hb).at_ p11);unfold zm at HFi;unfold vQ at HTk;have hb15:=HM5.out.pay.bel;generalize hjx:bs (bv tk)=jx at HJ;generalize bs b7=x7 at HEn HTk
          go_wp2_with (first
           | (go_at_call 29;refine HJ.out.mono ?_;rintro e w6 ⟨rfl,rfl⟩)
           | (go_at_call 28;(with_reducible refine (HEn.out _ _ ?hF).mono ?hm);(case hF=>exact Nf hjx _);rintro e w7 ⟨rfl,hb7⟩)
           | (go_at_call 30;refine (HTk.out _ (by exact aa)).mono ?_;rintro e w8 ⟨T8,S8,z8,ov8,ev8,er8,rfl,hov8,hev8,her8,hp8,hl8,hM8,-⟩;obtain rfl:er8=.nilIface:=her8;have x11:=HXA.out _ hM8.pay.bel;have HFi2:=hide (HFi.out _ hM8.pay.bel))
           | (go_at_call 31;refine HFi2.out.mono ?_;rintro e w9 ⟨rfl,rfl⟩)
           | fail)
          go_meet;exact ⟨rfl,rfl,hide ⟨T8,S8,_,z8,hM8,by omega,⟨rfl,rfl,rfl⟩⟩⟩
       case rest =>
        obtain ⟨rfl,rfl,HCut⟩:=hcut;clear HM5 htl3 hhd hbw5;generalize JM c.al tk tl=o at HCut;obtain ⟨T6,S6,s6,z6,hM6,hT6,hTr6⟩:=HCut.out;have HM6:=hide hM6;have HTr6:=hide hTr6;have hkl:c.ky.length≤20:=CfP.fw_ky hfw.1;clear hM6 hTr6 HCut;go_wp2_with fail
        go_loopw [21,22] (fun vs vi wr=>∃(i:Nat) (T:List Tm) (S':Nat→Prop) (s:bS) (z:TkP),vs=.string (bs (o9 i))∧vi=.int .i64 i∧i≤c.ky.length∧Hid (aI ⟨w1,w1.heap.size,g,lo,b,P,A8,c8,c.al,A10,c10,c.ky,c.us,n,il sid⟩ T S' s z wr)∧Hid (TrS c.al o i s)∧T.length≤20000+15000*i) (fun _ vi _=>c.ky.length - (intOf vi).toNat)
        case atStart=>exact ⟨0,T6,S6,s6,z6,rfl,rfl,Nat.zero_le _,HM6,HTr6,by omega⟩
        case round =>
         obtain ⟨i,T,S',s,z,rfl,rfl,hi,HM,HTr,hTcap⟩:=hrel;clear HM6 HTr6;have x17:=(HX1.out.below HM.out.pay.bel).at_ p17
         cases o with
         | none =>
          have HC:=hide (mi HM.out (bs (o9 i)) (Fa i) (by omega) (HTr.out.t));rw [aU,FD HTr.out (.inl rfl)] at HC;unfold vQ at HC;generalize bs (o9 i)=say at HC;have hbr:=HM.out.pay.bel;have hbw:=Hb1.out.trans (hbr.mono Hb1.out.size);clear HTr hTcap
          go_upto_region 30 with (first
           | (go_at_call 30;refine HC.out.mono ?_;rintro e w8 ⟨T8,S8,z8,ov8,ev8,er8,rfl,hov8,hev8,her8,hp8,hl8,hM8,-⟩;obtain rfl:ev8=.slice none 0 0:=hev8;obtain rfl:ov8=.slice none 0 0:=hov8.1 rfl)
           | fail)
          obtain ⟨b9,v9,rfl,hr9⟩:=(show aT w8 er8 [dm,kC] 12 from her8)
          have hbw8:=Hb1.out.trans (hM8.pay.bel.mono Hb1.out.size)
          have HTo:=hide (fun (V:World) (hb:Below w8.heap.size w8 V)=>show Calls Tryz.prog 33 #[aH b9,.agg #[.int .i64 12,.string ⟨#[97,117,116,104,99,32,119,97,121,115,32]⟩]] V (fun e w'=>e=.returned (.bool true)∧Below V.heap.size V w') from
           uo (ps:=[dm,kC]) (by decide) (by decide) (by decide) ((show aT w8 (aH b9) [dm,kC] 12 from ⟨b9,v9,rfl,hr9⟩).below hb) (((HV.out _ hbw8).2.2.2.2.2).below hb))
          have HIn:=hide (fun (V:World) (hb:Below w8.heap.size w8 V)=>yn (hM8.below hb));have HAw8:=hide (fun (V:World) (hb:Below w8.heap.size w8 V)=>HAw.out V (hbw8.trans (hb.mono hbw8.size)));have Hbw8:=hide hbw8;unfold aH at HTo;clear hov8 her8 hp8 hl8 hM8 hr9 hbw8 hbr hbw HC HM;unfold aH
          go_wp2_with (first
           | (go_at_call 7;refine (HAw8.out _ (by exact aa)).mono ?_;rintro e w10 ⟨rfl,hb10⟩)
           | (go_at_call 33;refine (HTo.out _ (by exact aa)).mono ?_;rintro e w11 ⟨rfl,hb11⟩)
           | (go_at_call 34;refine (HIn.out _ (by exact aa)).mono ?_;rintro e w12 ⟨rfl,hb12⟩)
           | fail)
          go_ret;exact ⟨rfl,Hbw8.out.trans ((show Below w8.heap.size w8 w12 from by exact aa).mono Hbw8.out.size)⟩
         | some a =>
          simp only [Option.getD_some,Option.isSome_some]
          by_cases hlt2:i<c.ky.length
          ·have hiI:(i:Int)<c.ky.length:=by omega
           obtain ⟨b9,hb9,htk9,hTr9⟩:=KO (us:=c.us) (ky:=c.ky) (sid:=il sid) HTr.out hlt2 HM.out.ok.us2 (rH HM.out.ok.aly HTr.out.ch)
           have hne:b9≠[]:=fun h9=>by
            have h8:=(FV (OZ HM.out.ok.us2 (rH HM.out.ok.aly HTr.out.ch) (Kz _)) hb9).2.2.2.1;rw [h9] at h8;exact absurd h8 (by decide)
           have HC:=hide (mi HM.out (bs (o9 i)) (Fa i) (by omega) (HTr.out.t));rw [aU,htk9] at HC;unfold vQ at HC;obtain ⟨hpk,hpz⟩:=Om (Gz (HZ.out _ (Nz hlt2).1));rw [hpk] at hb9;have HRq:=hide (fun (V:World)=>Fh (w:=V) hb9 HM.out.ok.us2 (rH HM.out.ok.aly HTr.out.ch) hpz);generalize bs (o9 i)=say at HC;have hbr:=HM.out.pay.bel;have hlo17:=hbr.size;have HX8:=hide (fun (V:World) (hb:Below w1.heap.size w1 V)=>And.intro ((HX1.out.below hb).at_ p16) ((HX1.out.below hb).at_ p17));have HK8:=hide (fun (V:World) (hb:Below w1.heap.size w1 V)=>(HV.out _ (Hb1.out.trans (hb.mono Hb1.out.size))).2.2.2.1.cw.hky i hlt2);clear HTr
           go_upto_region 25 with (first
            | (go_at_call 30;refine HC.out.mono ?_;rintro e w8 ⟨T8,S8,z8,ov8,ev8,er8,rfl,hov8,hev8,her8,hp8,hl8,hM8,-⟩;obtain rfl:er8=.nilIface:=her8;obtain rfl:ev8=.slice none 0 0:=hev8;obtain ⟨bo,rfl,hBo⟩:=hov8.2 hne)
            | fail)
           obtain ⟨x16,x17⟩:=HX8.out _ hM8.pay.bel;obtain ⟨ak,hak,hakb,ck⟩:=HK8.out _ hM8.pay.bel;rw [hak] at x17;have b0:=hBo.cell 0;simp only [List.getElem?_toArray,List.getElem?_cons_zero] at b0;have hck:c.ky[i]=bT c.ky i:=by unfold bT;rw [List.getElem?_eq_getElem hlt2];rfl
           rw [hck] at ck;have hiw:=hiI;have hi0:(0:Int)≤i:=by omega
           have HM8:=hide hM8;have HTr9:=hide hTr9;have Hbw8:=hide (Hb1.out.trans (hM8.pay.bel.mono Hb1.out.size));generalize bs b9=zb at b0 HRq;generalize bT c.ky i=who at ck HRq;generalize bs c.us=u0 at x16 HRq
           have hSw0:TrQ w.heap.size u0 ak c.ky.length c.c10 i who w8:=⟨x16,x17,ck⟩
           have hxn:w.heap.size<w8.heap.size:=World.block_lt_of_cell? w8 _ x16;have HBo:=hide hBo;clear hM8 hTr9 hov8 hak hck hbr hlo17 HC HK8 hne x16 x17 ck hBo;go_cut [26] (fun v26 wx=>v26=.string zb∧Below w8.heap.size w8 wx)
           case first =>
            as_aux_lemma =>
             refine iO (TrQ w.heap.size u0 ak c.ky.length c.c10 i who) (fun i=>[2,6,8,9,10,11,12,13,14,15].contains i) (by kernel_rfl) ?_
             obtain ⟨Wd,hWd⟩:∃Wd,Wd=w8.drew:=⟨_,rfl⟩
             have hbd:Below w8.heap.size w8 Wd:=by rw [hWd];exact (Below.refl _ _).drew
             have hSd:=hSw0.below hbd;rw [←hWd];clear hWd;refine ay (i:=0) (oi:=?_) (v:=.pointer (some ⟨w.heap.size,0,none⟩)) ?_ ?_ ?_ ?_ ?_ ?_ ?_ ?_;rotate_left 1
             ·(first | (simp only [List.getElem?_toArray,List.getElem?_cons_succ,List.getElem?_cons_zero];exact rfl) | exact rfl)
             ·kernel_rfl
             ·kernel_rfl
             ·kernel_rfl
             ·rfl
             ·exact fun _ _ _ h=>h
             ·exact Or.inl ⟨by rfl,fun w _=>by go_simp⟩
             try simp only [Act.put,List.setIfInBounds_toArray,List.set_cons_zero,List.set_cons_succ]
             refine ay (i:=1) (oi:=?_) (v:=.pointer (some ⟨w.heap.size,16,none⟩)) ?_ ?_ ?_ ?_ ?_ ?_ ?_ ?_;rotate_left 1
             ·(first | (simp only [List.getElem?_toArray,List.getElem?_cons_succ,List.getElem?_cons_zero];exact rfl) | exact rfl)
             ·kernel_rfl
             ·kernel_rfl
             ·kernel_rfl
             ·rfl
             ·exact fun _ _ _ h=>h
             ·exact Or.inl ⟨by rfl,fun w _=>by go_simp⟩
             try simp only [Act.put,List.setIfInBounds_toArray,List.set_cons_zero,List.set_cons_succ]
             refine ay (i:=3) (oi:=?_) (v:=.string (bs a)) ?_ ?_ ?_ ?_ ?_ ?_ ?_ ?_;rotate_left 1
             ·(first | (simp only [List.getElem?_toArray,List.getElem?_cons_succ,List.getElem?_cons_zero];exact rfl) | exact rfl)
             ·kernel_rfl
             ·kernel_rfl
             ·kernel_rfl
             ·rfl
             ·exact fun _ _ _ h=>h
             ·exact Or.inl ⟨by rfl,fun w _=>by go_simp⟩
             try simp only [Act.put,List.setIfInBounds_toArray,List.set_cons_zero,List.set_cons_succ]
             refine ay (i:=4) (oi:=?_) (v:=.pointer (some ⟨w.heap.size,0,none⟩)) ?_ ?_ ?_ ?_ ?_ ?_ ?_ ?_;rotate_left 1
             ·(first | (simp only [List.getElem?_toArray,List.getElem?_cons_succ,List.getElem?_cons_zero];exact rfl) | exact rfl)
             ·kernel_rfl
             ·kernel_rfl
             ·kernel_rfl
             ·rfl
             ·exact fun _ _ _ h=>h
             ·exact Or.inl ⟨by rfl,fun w _=>by go_simp⟩
             try simp only [Act.put,List.setIfInBounds_toArray,List.set_cons_zero,List.set_cons_succ]
             refine ay (i:=5) (oi:=?_) (v:=.pointer (some ⟨w.heap.size,17,none⟩)) ?_ ?_ ?_ ?_ ?_ ?_ ?_ ?_;rotate_left 1
             ·(first | (simp only [List.getElem?_toArray,List.getElem?_cons_succ,List.getElem?_cons_zero];exact rfl) | exact rfl)
             ·kernel_rfl
             ·kernel_rfl
             ·kernel_rfl
             ·rfl
             ·exact fun _ _ _ h=>h
             ·exact Or.inl ⟨by rfl,fun w _=>by go_simp⟩
             try simp only [Act.put,List.setIfInBounds_toArray,List.set_cons_zero,List.set_cons_succ]
             refine ay (i:=7) (oi:=?_) (v:=.int .i64 i) ?_ ?_ ?_ ?_ ?_ ?_ ?_ ?_;rotate_left 1
             ·(first | (simp only [List.getElem?_toArray,List.getElem?_cons_succ,List.getElem?_cons_zero];exact rfl) | exact rfl)
             ·kernel_rfl
             ·kernel_rfl
             ·kernel_rfl
             ·rfl
             ·exact fun _ _ _ h=>h
             ·exact Or.inl ⟨by rfl,fun w _=>by go_simp⟩
             try simp only [Act.put,List.setIfInBounds_toArray,List.set_cons_zero,List.set_cons_succ]
             refine aJ (i:=2) (oi:=?_) (v:=.string u0) ?_ ?_ ?_ ?_ ?_ ?_ ?_ hSd ?_;rotate_left 1
             ·(first | (simp only [List.getElem?_toArray,List.getElem?_cons_succ,List.getElem?_cons_zero];exact rfl) | exact rfl)
             ·kernel_rfl
             ·kernel_rfl
             ·kernel_rfl
             ·kernel_rfl
             ·exact fun _ _ _ h=>h
             ·refine Or.inl ⟨by rfl,fun w hSw=>?_⟩
              have k1:=hSw.1;clear hSw;go_simp
             try simp only [Act.put,List.setIfInBounds_toArray,List.set_cons_zero,List.set_cons_succ]
             refine aJ (i:=6) (oi:=?_) (v:=.slice (some ak) c.ky.length c.c10) ?_ ?_ ?_ ?_ ?_ ?_ ?_ hSd ?_;rotate_left 1
             ·(first | (simp only [List.getElem?_toArray,List.getElem?_cons_succ,List.getElem?_cons_zero];exact rfl) | exact rfl)
             ·kernel_rfl
             ·kernel_rfl
             ·kernel_rfl
             ·kernel_rfl
             ·exact fun _ _ _ h=>h
             ·refine Or.inl ⟨by rfl,fun w hSw=>?_⟩
              have k1:=hSw.2.1;clear hSw;go_simp
             try simp only [Act.put,List.setIfInBounds_toArray,List.set_cons_zero,List.set_cons_succ]
             refine aJ (i:=8) (oi:=?_) (v:=.pointer (some (ak.add i))) ?_ ?_ ?_ ?_ ?_ ?_ ?_ hSd ?_;rotate_left 1
             ·(first | (simp only [List.getElem?_toArray,List.getElem?_cons_succ,List.getElem?_cons_zero];exact rfl) | exact rfl)
             ·kernel_rfl
             ·kernel_rfl
             ·kernel_rfl
             ·kernel_rfl
             ·exact fun _ _ _ h=>h
             ·refine Or.inl ⟨by rfl,fun w hSw=>?_⟩
              clear hSw;go_simp
             try simp only [Act.put,List.setIfInBounds_toArray,List.set_cons_zero,List.set_cons_succ]
             refine aJ (i:=9) (oi:=?_) (v:=.int .i64 who) ?_ ?_ ?_ ?_ ?_ ?_ ?_ hSd ?_;rotate_left 1
             ·(first | (simp only [List.getElem?_toArray,List.getElem?_cons_succ,List.getElem?_cons_zero];exact rfl) | exact rfl)
             ·kernel_rfl
             ·kernel_rfl
             ·kernel_rfl
             ·kernel_rfl
             ·exact fun _ _ _ h=>h
             ·refine Or.inl ⟨by rfl,fun w hSw=>?_⟩
              have k1:=hSw.2.2;clear hSw;go_simp
             try simp only [Act.put,List.setIfInBounds_toArray,List.set_cons_zero,List.set_cons_succ]
             refine ah (rs:=[10,14]) (by kernel_rfl) (by simp) ?_;refine ae.cons (o:=?_) ?_ (fun K hK=>?_) ?_;rotate_left 1
             ·(first | (simp only [List.getElem?_toArray,List.getElem?_cons_succ,List.getElem?_cons_zero];exact rfl) | exact rfl)
             ·refine sF (f:=32) (by rfl) (by first | rfl | go_simp) (HRq.out Wd) ?_
              rintro e wC ⟨rfl,hbC⟩;refine ⟨_,rfl,?_⟩;have hS1:=hSd.below hbC;refine hK.out _ _ hS1 (fun _=>?_);clear hK K
              try simp only [Act.put,List.setIfInBounds_toArray,List.set_cons_zero,List.set_cons_succ]
              refine aJ (i:=11) (oi:=?_) (v:=.tuple #[.string zb,.agg #[.int .i64 0,.string ⟨#[]⟩]]) ?_ ?_ ?_ ?_ ?_ ?_ ?_ hS1 ?_;rotate_left 1
              ·(first | (simp only [List.getElem?_toArray,List.getElem?_cons_succ,List.getElem?_cons_zero];exact rfl) | exact rfl)
              ·kernel_rfl
              ·kernel_rfl
              ·kernel_rfl
              ·kernel_rfl
              ·exact fun _ _ _ h=>h
              ·refine Or.inl ⟨by rfl,fun w hSw=>?_⟩
               clear hSw;go_simp
              try simp only [Act.put,List.setIfInBounds_toArray,List.set_cons_zero,List.set_cons_succ]
              refine aJ (i:=12) (oi:=?_) (v:=.string zb) ?_ ?_ ?_ ?_ ?_ ?_ ?_ hS1 ?_;rotate_left 1
              ·(first | (simp only [List.getElem?_toArray,List.getElem?_cons_succ,List.getElem?_cons_zero];exact rfl) | exact rfl)
              ·kernel_rfl
              ·kernel_rfl
              ·kernel_rfl
              ·kernel_rfl
              ·exact fun _ _ _ h=>h
              ·refine Or.inl ⟨by rfl,fun w hSw=>?_⟩
               clear hSw;go_simp
              try simp only [Act.put,List.setIfInBounds_toArray,List.set_cons_zero,List.set_cons_succ]
              refine aJ (i:=13) (oi:=?_) (v:=.agg #[.int .i64 0,.string ⟨#[]⟩]) ?_ ?_ ?_ ?_ ?_ ?_ ?_ hS1 ?_;rotate_left 1
              ·(first | (simp only [List.getElem?_toArray,List.getElem?_cons_succ,List.getElem?_cons_zero];exact rfl) | exact rfl)
              ·kernel_rfl
              ·kernel_rfl
              ·kernel_rfl
              ·kernel_rfl
              ·exact fun _ _ _ h=>h
              ·refine Or.inl ⟨by rfl,fun w hSw=>?_⟩
               clear hSw;go_simp
              try simp only [Act.put,List.setIfInBounds_toArray,List.set_cons_zero,List.set_cons_succ]
              refine ah (rs:=[14]) (by kernel_rfl) (by simp) ?_;refine ae.cons (o:=?_) ?_ (fun K hK=>?_) ae.nil;rotate_left 1
              ·(first | (simp only [List.getElem?_toArray,List.getElem?_cons_succ,List.getElem?_cons_zero];exact rfl) | exact rfl)
              obtain ⟨wA,hwA⟩:∃W9,W9=wC.alloc (.cells #[.int .i64 0,.string ⟨#[]⟩] 45):=⟨_,rfl⟩
              have hbA:Below wC.heap.size wC wA:=by rw [hwA];exact az _
              have hXA:Blk wA wC.heap.size 45 #[.int .i64 0,.string ⟨#[]⟩]:=by rw [hwA];exact Blk.new wC _ _
              refine tJ (v:=.pointer (some ⟨wC.heap.size,0,none⟩)) (w':=wA) (by rfl) (by rw [hwA];first | rfl | go_simp) ?_;clear hwA;have hS2:=hS1.below hbA;refine hK.out _ _ hS2 (fun _=>?_);clear hK K
              try simp only [Act.put,List.setIfInBounds_toArray,List.set_cons_zero,List.set_cons_succ]
              refine aJ (i:=15) (oi:=?_) (v:=.string zb) ?_ ?_ ?_ ?_ ?_ ?_ ?_ hS2 ?_;rotate_left 1
              ·(first | (simp only [List.getElem?_toArray,List.getElem?_cons_succ,List.getElem?_cons_zero];exact rfl) | exact rfl)
              ·kernel_rfl
              ·kernel_rfl
              ·kernel_rfl
              ·kernel_rfl
              ·exact fun _ _ _ h=>h
              ·refine Or.inl ⟨by rfl,fun w hSw=>?_⟩
               clear hSw;go_simp
              try simp only [Act.put,List.setIfInBounds_toArray,List.set_cons_zero,List.set_cons_succ]
              have hXe:=hXA;have hbw0:Below w8.heap.size w8 wA:=by exact aa
              have hle:w8.heap.size≤wC.heap.size:=by
               have h9:Below w8.heap.size w8 wC:=by exact aa
               exact h9.size
              refine ah (rs:=[16]) (by kernel_rfl) (by simp) ?_;refine ae.late (o:=?_) ?_ rfl (fun K hK=>?_) ae.nil;rotate_left 1
              ·(first | (simp only [List.getElem?_toArray,List.getElem?_cons_succ,List.getElem?_cons_zero];exact rfl) | exact rfl)
              refine qZ (by rfl) 45 (.tmp 27) (.tmp 148) rfl wC.heap.size 0 #[.int .i64 0,.string ⟨#[]⟩] (by rfl) (by rfl) (qp hXe (by simp)) Mj (by simp [Value.oneCell']) ?_;have hbf:Below w8.heap.size w8 (wA.setCells wC.heap.size 0 #[.int .i64 0,.string ⟨#[]⟩].toList):=below_setCells hle _ _ hbw0;refine hK.out _ _ ?_;clear hK K
              try simp only [Act.put,List.setIfInBounds_toArray,List.set_cons_zero,List.set_cons_succ]
              refine dZ (by kernel_rfl) ?_ _;clear hSd hXe;go_wp2_with fail;go_meet;exact ⟨rfl,hbf⟩
             ·refine ae.cons (o:=?_) ?_ (fun K hK=>?_) ae.nil
              rotate_left 1
              ·(first | (simp only [List.getElem?_toArray,List.getElem?_cons_succ,List.getElem?_cons_zero];exact rfl) | exact rfl)
              obtain ⟨wA,hwA⟩:∃W9,W9=Wd.alloc (.cells #[.int .i64 0,.string ⟨#[]⟩] 45):=⟨_,rfl⟩
              have hbA:Below Wd.heap.size Wd wA:=by rw [hwA];exact az _
              have hXA:Blk wA Wd.heap.size 45 #[.int .i64 0,.string ⟨#[]⟩]:=by rw [hwA];exact Blk.new Wd _ _
              refine tJ (v:=.pointer (some ⟨Wd.heap.size,0,none⟩)) (w':=wA) (by rfl) (by rw [hwA];first | rfl | go_simp) ?_;clear hwA;have hS1:=hSd.below hbA;refine hK.out _ _ hS1 (fun _=>?_);clear hK K
              try simp only [Act.put,List.setIfInBounds_toArray,List.set_cons_zero,List.set_cons_succ]
              refine ah (rs:=[10]) (by kernel_rfl) (by simp) ?_;refine ae.cons (o:=?_) ?_ (fun K hK=>?_) ae.nil;rotate_left 1
              ·(first | (simp only [List.getElem?_toArray,List.getElem?_cons_succ,List.getElem?_cons_zero];exact rfl) | exact rfl)
              refine sF (f:=32) (by rfl) (by first | rfl | go_simp) (HRq.out wA) ?_;rintro e wC ⟨rfl,hbC⟩;refine ⟨_,rfl,?_⟩;have hS2:=hS1.below hbC;refine hK.out _ _ hS2 (fun _=>?_);clear hK K
              try simp only [Act.put,List.setIfInBounds_toArray,List.set_cons_zero,List.set_cons_succ]
              refine aJ (i:=11) (oi:=?_) (v:=.tuple #[.string zb,.agg #[.int .i64 0,.string ⟨#[]⟩]]) ?_ ?_ ?_ ?_ ?_ ?_ ?_ hS2 ?_;rotate_left 1
              ·(first | (simp only [List.getElem?_toArray,List.getElem?_cons_succ,List.getElem?_cons_zero];exact rfl) | exact rfl)
              ·kernel_rfl
              ·kernel_rfl
              ·kernel_rfl
              ·kernel_rfl
              ·exact fun _ _ _ h=>h
              ·refine Or.inl ⟨by rfl,fun w hSw=>?_⟩
               clear hSw;go_simp
              try simp only [Act.put,List.setIfInBounds_toArray,List.set_cons_zero,List.set_cons_succ]
              refine aJ (i:=12) (oi:=?_) (v:=.string zb) ?_ ?_ ?_ ?_ ?_ ?_ ?_ hS2 ?_;rotate_left 1
              ·(first | (simp only [List.getElem?_toArray,List.getElem?_cons_succ,List.getElem?_cons_zero];exact rfl) | exact rfl)
              ·kernel_rfl
              ·kernel_rfl
              ·kernel_rfl
              ·kernel_rfl
              ·exact fun _ _ _ h=>h
              ·refine Or.inl ⟨by rfl,fun w hSw=>?_⟩
               clear hSw;go_simp
              try simp only [Act.put,List.setIfInBounds_toArray,List.set_cons_zero,List.set_cons_succ]
              refine aJ (i:=13) (oi:=?_) (v:=.agg #[.int .i64 0,.string ⟨#[]⟩]) ?_ ?_ ?_ ?_ ?_ ?_ ?_ hS2 ?_;rotate_left 1
              ·(first | (simp only [List.getElem?_toArray,List.getElem?_cons_succ,List.getElem?_cons_zero];exact rfl) | exact rfl)
              ·kernel_rfl
              ·kernel_rfl
              ·kernel_rfl
              ·kernel_rfl
              ·exact fun _ _ _ h=>h
              ·refine Or.inl ⟨by rfl,fun w hSw=>?_⟩
               clear hSw;go_simp
              try simp only [Act.put,List.setIfInBounds_toArray,List.set_cons_zero,List.set_cons_succ]
              refine aJ (i:=15) (oi:=?_) (v:=.string zb) ?_ ?_ ?_ ?_ ?_ ?_ ?_ hS2 ?_;rotate_left 1
              ·(first | (simp only [List.getElem?_toArray,List.getElem?_cons_succ,List.getElem?_cons_zero];exact rfl) | exact rfl)
              ·kernel_rfl
              ·kernel_rfl
              ·kernel_rfl
              ·kernel_rfl
              ·exact fun _ _ _ h=>h
              ·refine Or.inl ⟨by rfl,fun w hSw=>?_⟩
               clear hSw;go_simp
              try simp only [Act.put,List.setIfInBounds_toArray,List.set_cons_zero,List.set_cons_succ]
              have hXe:=(hXA.below hbC hXA.lt)
              have hbw0:Below w8.heap.size w8 wC:=by exact aa
              have hle:w8.heap.size≤Wd.heap.size:=by
               have h9:Below w8.heap.size w8 Wd:=by exact aa
               exact h9.size
              refine ah (rs:=[16]) (by kernel_rfl) (by simp) ?_;refine ae.late (o:=?_) ?_ rfl (fun K hK=>?_) ae.nil;rotate_left 1
              ·(first | (simp only [List.getElem?_toArray,List.getElem?_cons_succ,List.getElem?_cons_zero];exact rfl) | exact rfl)
              refine qZ (by rfl) 45 (.tmp 27) (.tmp 148) rfl Wd.heap.size 0 #[.int .i64 0,.string ⟨#[]⟩] (by rfl) (by rfl) (qp hXe (by simp)) Mj (by simp [Value.oneCell']) ?_;have hbf:Below w8.heap.size w8 (wC.setCells Wd.heap.size 0 #[.int .i64 0,.string ⟨#[]⟩].toList):=below_setCells hle _ _ hbw0;refine hK.out _ _ ?_;clear hK K
              try simp only [Act.put,List.setIfInBounds_toArray,List.set_cons_zero,List.set_cons_succ]
              refine dZ (by kernel_rfl) ?_ _;clear hSd hXe;go_wp2_with fail;go_meet;exact ⟨rfl,hbf⟩
           case rest =>
            obtain ⟨wf,rfl⟩:∃wf:World,wf=wc:=⟨wc,rfl⟩
            obtain ⟨rfl,hbf⟩:=hcut;have b0:=dh hbf b0;have HM9:=hide (HM8.out.below hbf);have et:((i+1:Nat):Int)=(i:Int)+1:=by omega
            have hw1:IntKind.i64.wrap ((i:Int)+1)=(i:Int)+1:=by rw [IntKind.wrap_i64];omega
            have HT9:=hide (show Calls Tryz.prog 13 #[.pointer (some ⟨b,0,none⟩)] wf (fun e w'=>e=.returned (.int .i64 ((i:Int)+1))∧Below wf.heap.size wf w') from by
             have h9:=CZ HM9.out;rw [show (((⟨2,s.told,s.taken,i+1,a⟩:bS).tried:Nat):Int)=(i:Int)+1 from et] at h9
             exact h9)
            clear hbf hSw0;go_wp2_with (first | (go_at_call 13;refine HT9.out.mono ?_;rintro e w10 ⟨rfl,hb10⟩) | fail);exact ⟨⟨i+1,T8,S8,_,z8,(by unfold o9;rw [if_neg (Nat.succ_ne_zero i)];rfl),by go_num,by omega,hide (HM9.out.below hb10),HTr9,by omega⟩,by simp [intOf];omega⟩
          ·have hiI:¬ (i:Int)<c.ky.length:=by omega
           have HC:=hide (mi HM.out (bs (o9 i)) (Fa i) (by omega) (HTr.out.t));rw [aU,FD HTr.out (.inr (show c.ky.length≤i by omega))] at HC;unfold vQ at HC;generalize bs (o9 i)=say at HC;have hbr:=HM.out.pay.bel;have hbw:=Hb1.out.trans (hbr.mono Hb1.out.size);clear HTr hTcap
           go_upto_region 30 with (first
            | (go_at_call 30;refine HC.out.mono ?_;rintro e w8 ⟨T8,S8,z8,ov8,ev8,er8,rfl,hov8,hev8,her8,hp8,hl8,hM8,-⟩;obtain rfl:ev8=.slice none 0 0:=hev8;obtain rfl:ov8=.slice none 0 0:=hov8.1 rfl)
            | fail)
           obtain ⟨b9,v9,rfl,hr9⟩:=(show aT w8 er8 [dm,kC] 12 from her8)
           have hbw8:=Hb1.out.trans (hM8.pay.bel.mono Hb1.out.size)
           have HTo:=hide (fun (V:World) (hb:Below w8.heap.size w8 V)=>show Calls Tryz.prog 33 #[aH b9,.agg #[.int .i64 12,.string ⟨#[97,117,116,104,99,32,119,97,121,115,32]⟩]] V (fun e w'=>e=.returned (.bool true)∧Below V.heap.size V w') from
            uo (ps:=[dm,kC]) (by decide) (by decide) (by decide) ((show aT w8 (aH b9) [dm,kC] 12 from ⟨b9,v9,rfl,hr9⟩).below hb) (((HV.out _ hbw8).2.2.2.2.2).below hb))
           have HIn:=hide (fun (V:World) (hb:Below w8.heap.size w8 V)=>yn (hM8.below hb));have HAw8:=hide (fun (V:World) (hb:Below w8.heap.size w8 V)=>HAw.out V (hbw8.trans (hb.mono hbw8.size)));have Hbw8:=hide hbw8;unfold aH at HTo;clear hov8 her8 hp8 hl8 hM8 hr9 hbw8 hbr hbw HC HM;unfold aH
           go_wp2_with (first
            | (go_at_call 7;refine (HAw8.out _ (by exact aa)).mono ?_;rintro e w10 ⟨rfl,hb10⟩)
            | (go_at_call 33;refine (HTo.out _ (by exact aa)).mono ?_;rintro e w11 ⟨rfl,hb11⟩)
            | (go_at_call 34;refine (HIn.out _ (by exact aa)).mono ?_;rintro e w12 ⟨rfl,hb12⟩)
            | fail)
           go_ret;exact ⟨rfl,Hbw8.out.trans ((show Below w8.heap.size w8 w12 from by exact aa).mono Hbw8.out.size)⟩
     ·have her:=HR.out.er
      rw [he] at her;have hpn:=HR.out.no (by rw [he];simp);subst hpn;obtain ⟨te,ue,rfl⟩:=aT.shape (show aT w3 er ps k from her);have hbw:=Hb1.out.trans (HR.out.pay.bel.mono Hb1.out.size);clear her HR he
      obtain ⟨w4,hw4⟩:∃W4,W4=w3.alloc (.cells #[.int .i64 kk,.string y] 45):=⟨_,rfl⟩
      have hb4:Below w3.heap.size w3 w4:=by rw [hw4];exact az _
      have hbw4:=hbw.trans (hb4.mono hbw.size);clear hb4;go_upto_region 10 with fail;rw [←hw4];clear hw4;go_wp2_with fail;refine (HAw.out _ hbw4).mono ?_;rintro e w6 ⟨rfl,hb6⟩;go_wp2_with fail;go_ret;exact ⟨by simp,hbw4.trans (hb6.mono hbw4.size)⟩
  ·have h20i:(20:Int)<tk.length:=by omega
   go_wp2_with fail;refine (HAw.out _ Hb1.out).mono ?_;rintro e w2 ⟨rfl,hb2⟩;go_wp2_with fail;go_ret;exact ⟨rfl,Hb1.out.trans (hb2.mono Hb1.out.size)⟩
end
end Go.Proofs.YtnhekaepgpbijaaGreatDoor
