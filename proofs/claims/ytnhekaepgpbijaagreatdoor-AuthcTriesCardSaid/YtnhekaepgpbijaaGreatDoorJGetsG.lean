/- Several of my texts in one: EncG, Gets. -/
import Derived.Test.YtnhekaepgpbijaaGreatDoorJMsgHG
import Derived.Test.YtnhekaepgpbijaaGreatDoorJRPutG
import Derived.Test.YtnhekaepgpbijaaGreatDoorJChnG
import Derived.Lib.OthersKept
import Derived.WalkSmall
import Derived.Lib.QuietBelow
import Derived.Deep.RegionHeld3
import Derived.Deep.DeepCutAuto
set_option linter.unusedVariables false
set_option linter.unusedSimpArgs false
set_option maxHeartbeats 40000000
set_option maxRecDepth 100000
namespace Go.Proofs.YtnhekaepgpbijaaGreatDoor
open Go.RowKit
def Kk (n:Int):ByteArray :=
 if n=50 then ⟨#[117,115,101,114,97,117,116,104,45,114,101,113,117,101,115,116]⟩ else if n=51 then ⟨#[117,115,101,114,97,117,116,104,45,102,97,105,108,117,114,101]⟩ else if n=52 then ⟨#[117,115,101,114,97,117,116,104,45,115,117,99,99,101,115,115]⟩ else if n=53 then ⟨#[117,115,101,114,97,117,116,104,45,98,97,110,110,101,114]⟩ else if n=60 then ⟨#[117,115,101,114,97,117,116,104,45,112,107,45,111,107]⟩ else ⟨#[]⟩
def word (n:Int):ByteArray :=
 if n=1 then ⟨#[100,105,115,99,111,110,110,101,99,116]⟩ else if n=2 then ⟨#[105,103,110,111,114,101]⟩ else if n=3 then ⟨#[117,110,105,109,112,108,101,109,101,110,116,101,100]⟩ else if n=4 then ⟨#[100,101,98,117,103]⟩ else if n=5 then ⟨#[115,101,114,118,105,99,101,45,114,101,113,117,101,115,116]⟩ else if n=6 then ⟨#[115,101,114,118,105,99,101,45,97,99,99,101,112,116]⟩ else if n=7 then ⟨#[101,120,116,45,105,110,102,111]⟩ else if n=20 then ⟨#[107,101,120,105,110,105,116]⟩ else if n=21 then ⟨#[110,101,119,107,101,121,115]⟩ else if n=30 then ⟨#[101,99,100,104,45,105,110,105,116]⟩ else if n=31 then ⟨#[114,101,112,108,121,45,111,114,45,103,114,111,117,112]⟩ else if n=32 then ⟨#[103,101,120,45,105,110,105,116]⟩ else if n=33 then ⟨#[103,101,120,45,114,101,112,108,121]⟩ else if n=34 then ⟨#[103,101,120,45,114,101,113,117,101,115,116]⟩ else Kk n
theorem Lv (n:Int) (w:World):Calls Tryz.prog 95 #[.int .i64 n] w fun e w'=>e=.returned (.string (Kk n))∧w=w':=by
 go_enter Tryz.func95,Tryz.ntmps95;go_wp2
 all_goals (go_ret;refine ⟨?_,rfl⟩;simp_all [Kk])
theorem AO (n:Int) (w:World):Calls Tryz.prog 48 #[.int .i64 n] w fun e w'=>e=.returned (.string (word n))∧w=w':=by
 go_enter Tryz.func48,Tryz.ntmps48;go_wp2_with (go_at_call 95;refine (Lv _ _).mono ?_;rintro e w' ⟨rfl,rfl⟩)
 all_goals (go_ret;refine ⟨?_,rfl⟩;simp_all [word])
def known (n:Int):Bool:=!(forms n).isEmpty
theorem qD (n:Int) (w:World):Calls Tryz.prog 44 #[.int .i64 n] w fun e w'=>e=.returned (.bool (known n))∧Below w.heap.size w w':=by
 have hl:=lU n;go_enter Tryz.func44,Tryz.ntmps44;go_wp2_with (go_at_call 45;refine (qf _ _).mono ?_;rintro e w1 ⟨v,rfl,⟨A,c,rfl,hr⟩,hb⟩);go_ret;refine ⟨fQ ?_,hb⟩;unfold known;cases forms n <;> simp
def num (s:ByteArray):Int × Bool:=match ((List.range 60).map (fun i=>((i+1:Nat):Int))).find? (fun n=>word n != ⟨#[]⟩ && word n == s) with | some n=>(n,true) | none=>(0,false)
end Go.Proofs.YtnhekaepgpbijaaGreatDoor

namespace Go.Proofs.YtnhekaepgpbijaaGreatDoor
open Go.RowKit Go.ChangeShapes Go.WideShapes Go.Sort
def vG:List UInt8:=[109,101,115,115,97,103,101]
def ic (num:Int):RS→Option (List (List UInt8) × Nat)
 | .ok _=>none
 | .none=>some ([vG],6)
 | .long=>some ([(word num).data.toList],2)
 | .bad e i=>some ([(word num).data.toList,Lib.decDigits i],e)
def SF (num:Int) (l:List Fld) (w:World) (e:Ending) (w':World):Prop :=
 Below w.heap.size w w'∧((∃s,encS num l=.ok s∧e=.returned (.tuple #[.string (bs s),.nilIface])) ∨
  (∃b ps,∃k:Nat,ic num (encS num l)=some (ps,k)∧e=.returned (.tuple #[.string ⟨#[]⟩,aH b])∧aT w' (aH b) ps k))
theorem uN {f:List UInt8} {l:List Fld} {i:Nat} (out:List UInt8) (hf:i<f.length) (hl:i<l.length) :
  gV (f.drop i) (l.drop i) i out=if l[i].k=f[i].toNat∧bz l[i]=true then (if (aG l[i]).1=0 then (if 32768<(out++(aG l[i]).2).length then .long else gV (f.drop (i+1)) (l.drop (i+1)) (i+1) (out++(aG l[i]).2)) else .bad (aG l[i]).1 i) else .bad 3 i:=by
 rw [List.drop_eq_getElem_cons hf,List.drop_eq_getElem_cons hl];rfl
theorem nD {n:Int} {f:ByteArray} (h:f∈forms n):f.size≤13∧∀c∈f.data.toList,c.toNat<128:=by
 have key:∀g∈forms n,g.size≤13∧∀c∈g.data.toList,c.toNat<128:=by
  unfold forms
  repeat' refine pV (P:=fun l:List ByteArray=>∀g∈l,g.size≤13∧∀c∈g.data.toList,c.toNat<128) ?_ ?_
  all_goals decide
 exact key f h
theorem qW (x:Fld):(aG x).1≤5:=by
 unfold aG;have:=iM x.l
 repeat' split
 all_goals simp
 all_goals omega
theorem BI {x:Fld} (hx:SzF x):(aG x).2.length≤200000000:=by
 have hw:=jw x.s;have hw2:=mr (bE x.s);have h1:=hx.s;have h2:=sK hx.l;have h3:=hx.n;unfold aG
 split
 ·split
  ·simp
  ·split <;> simp
 ·split
  ·split
   ·simp [bU]
   ·simp
  ·split
   ·split
    ·simp
    ·simp only [fO,List.length_append,bU]
     omega
   ·split
    ·split
     ·rename_i hk
      obtain ⟨_,w2⟩:=iK hk;have:=jd (l:=x.l) (fun y hy=>(fH (w2 y hy)).2);simp only [bC,List.length_append,bU];omega
     ·simp
    ·split
     ·split
      ·simp
       omega
      ·simp
     ·split
      ·split
       ·simp
       ·split
        ·simp
        ·simp only [kY,List.length_append,bU]
         omega
      ·simp only [bC,List.length_append,bU]
       omega
theorem NA {w w9:World} {t:TypeId} {a b c d:Value} (hb:Below (w.alloc (.cells #[a,b,c,d] t)).heap.size (w.alloc (.cells #[a,b,c,d] t)) w9) :
  w9.cell? ⟨w.heap.size,0,none⟩=some a∧w9.cell? ⟨w.heap.size,1,none⟩=some b∧w9.cell? ⟨w.heap.size,2,none⟩=some c∧w9.cell? ⟨w.heap.size,3,none⟩=some d:=by
 have h:=Blk.below (Blk.new w t #[a,b,c,d]) hb (Blk.new w t #[a,b,c,d]).lt;exact ⟨h.cell 0,h.cell 1,h.cell 2,h.cell 3⟩
section
variable {w : World}
theorem Fx {A:Option Addr} {l:List Fld} (h:kR w A l) {i:Nat} (hi:i<l.length):∃ad B c,A=some ad∧w.cell? (ad.add (i*4))=some (.int .u8 l[i].k)∧w.cell? ⟨(ad.add (i*4)).block,(ad.add (i*4)).off+1,none⟩=some (.int .i64 l[i].n)∧w.cell? ⟨(ad.add (i*4)).block,(ad.add (i*4)).off+2,none⟩=some (.string (bs l[i].s))∧w.cell? ⟨(ad.add (i*4)).block,(ad.add (i*4)).off+3,none⟩=some (.slice B l[i].l.length c)∧Txs w (.slice B l[i].l.length c) l[i].l∧l[i].l.length≤c∧l[i].k<256:=by
 obtain ⟨ad,lv,e,_,c0,c1,c2,c3,⟨ht,B,c,rfl,hc⟩,hk⟩:=h.at_ i l[i] (List.getElem?_eq_getElem hi);exact ⟨ad,B,c,e,c0,c1,c2,c3,ht,hc,hk⟩
structure Tz (w:World) (num:Int) (l:List Fld) (A:Option Addr) (c:Nat) (f:ByteArray) (B i:Nat) (out:List UInt8) (wr:World):Prop where
 bel:Below w.heap.size w wr
 it:wr.heap[B]?=some (.stringIter f i)
 box:Blk wr w.heap.size 55 #[.int .i64 num,.slice A l.length c]
 go:gV (f.data.toList.drop i) (l.drop i) i out=encS num l
 len:out.length≤32768
theorem lN (num:Int) {l:List Fld} {A:Option Addr} {c:Nat} (hl:kR w A l) (hs:∀x∈l,SzF x) (hll:l.length≤1000) :
  Calls Tryz.prog 68 #[.agg #[.int .i64 num,.slice A l.length c]] w (SF num l w):=by
 have HF:=hide (fun W=>QD num (l.length:Int) W)
 cases hf:(fit num l.length).2 with
 | false =>
  have hE:=hide (show ic num (encS num l)=some ([vG],6) from by unfold encS;rw [hf];rfl);rw [hf] at HF;have HO:=hide (fun W=>bH ⟨#[109,101,115,115,97,103,101]⟩ 6 (by decide) W);generalize (fit num l.length).1=f at HF;clear hl hs;unfold aH at HO;go_enter Tryz.func68,Tryz.ntmps68
  go_wp2_with (first
   | (go_at_call 117;refine (HF.out _).mono ?_;rintro e w1 ⟨rfl,hb1⟩)
   | (go_at_call 43;refine (HO.out _).mono ?_;rintro e w2 ⟨b,rfl,hi,hb2⟩)
   | fail)
  go_ret2;exact ⟨by exact aa,.inr ⟨b,_,6,hE.out,rfl,hi⟩⟩
 | true =>
  obtain ⟨hmem,hsz⟩:=oN hf;obtain ⟨hf13,hasc⟩:=nD hmem;have hn:=qJ (n:=num) (fun e=>by rw [e] at hmem;simp at hmem)
  have hE0:gV ((fit num l.length).1.data.toList.drop 0) (l.drop 0) 0 [UInt8.ofNat num.toNat]=encS num l:=by
   unfold encS;rw [if_pos hf];rfl
  rw [hf] at HF;generalize (fit num l.length).1=f at HF hsz hf13 hasc hE0
  obtain ⟨m,rfl⟩:∃m:Nat,num=m:=⟨num.toNat,by omega⟩
  have hmm:(m:Int).toNat=m:=by simp
  rw [hmm] at hE0;have HB:=hide (fun W=>qx m W (by omega))
  have hwm:IntKind.u8.wrap (m:Int)=m:=by
   simp only [IntKind.wrap,IntKind.bits,IntKind.signed];simp;omega
  have HL:=hide hl;have HS:=hide hs;have HA:=hide hasc;have HE0:=hide hE0;have HW:=hide (fun W=>AO (m:Int) W);have hfl:f.data.toList.length=l.length:=hsz;have hsz13:l.length≤13:=by omega
  have Hsz:=hide hsz;clear hl hs hasc hE0 hmem hf hn hmm hsz;go_enter Tryz.func68,Tryz.ntmps68
  go_upto_region 5 with (first
   | (go_at_call 117;refine (HF.out _).mono ?_;rintro e w1 ⟨rfl,hb1⟩;have hbx1:=Blk.below (Blk.new w 55 #[.int .i64 m,.slice A l.length c]) hb1 (Blk.new w _ _).lt;have c0:=hbx1.cell 0;simp only [List.getElem?_toArray,List.getElem?_cons_zero] at c0)
   | (go_at_call 118;refine (HB.out _).mono ?_;rintro e w2 ⟨rfl,hb2⟩)
   | fail)
  have hbx2:=hbx1.below hb2 hbx1.lt;have hbw2:Below w.heap.size w w2:=by exact aa
  have HI0:=hide (show Tz w m l A c f w2.heap.size 0 [UInt8.ofNat m] (w2.iter f 0) from ⟨by show Below w.heap.size w (w2.alloc _);exact hbw2.alloc hbw2.size _,World.iter_heap _ _ _,by show Blk (w2.alloc _) _ _ _;exact hbx2.alloc _,HE0.out,by simp⟩);have hB:w.heap.size<w2.heap.size:=hbx2.lt;clear hb1 hb2 hbx1 c0 HF HB hbx2 hbw2 HE0;go_upto_region 6 with fail;generalize hWi:w2.iter f 0=w3 at HI0 ⊢;generalize w2.heap.size=B at HI0 hB ⊢;clear hWi
  go_loopw [6] (fun vo wr=>∃(i:Nat) (out:List UInt8),vo=.string (bs out)∧i≤l.length∧Hid (Tz w m l A c f B i out wr)) (fun _ wr=>l.length - wr.iterPos B)
  case atStart=>exact ⟨0,_,rfl,Nat.zero_le _,HI0⟩
  case round =>
   obtain ⟨i,out,rfl,hi,HI⟩:=hrel;have hit:=HI.out.it;have hip:wr.iterPos B=i:=iterPos_of hit
   by_cases hlt:i<l.length
   ·have hif:i<f.size:=by rw [Hsz.out];exact hlt
    have hmemc:=bQ hif;have hnx:∀ty,(Instr.next (.pointer (some ⟨B,0,none⟩)) true ty).run Tryz.prog wr=_:=fun ty=>Lib.run_next_ascii_at wr B f i ty hit hif (HA.out _ hmemc)
    obtain ⟨wn,hwn⟩:∃wn,wn=wr.iterAt B f (i+1):=⟨_,rfl⟩
    have hitn:wn.heap[B]?=some (.stringIter f (i+1)):=by rw [hwn];exact Lib.iterAt_heap wr B f i (i+1) hit
    have hbn:Below w.heap.size w wn:=by rw [hwn];exact Lib.below_iterAt HI.out.bel (by omega) f (i+1)
    have hbxn:Blk wn w.heap.size 55 #[.int .i64 m,.slice A l.length c]:=by
     unfold Blk;rw [hwn,Lib.iterAt_other _ _ _ _ _ (by omega)];exact HI.out.box
    have hgo:=hide (uN (i:=i) (f:=f.data.toList) (l:=l) out (by omega) hlt);have hgo2:=hide HI.out.go;have hol:=HI.out.len;rw [←hwn] at hnx;obtain ⟨ad,A2,c2,rfl,q0,q1,q2,q3,hTx,hc2,hk⟩:=Fx (HL.out.below hbn) hlt;have hSx:=HS.out _ (List.getElem_mem hlt);have hpl:=BI hSx;have hpe:=qW l[i];have hfc:f.data.toList[i]'(by omega)=f[i]:=rfl;rw [hfc] at hgo;generalize hx:l[i]=x at q0 q1 q2 q3 hTx hc2 hk hSx hgo hpl hpe;have hc7:f[i].toNat<128:=HA.out _ hmemc;generalize hcc:f[i].toNat=ch at hnx hgo hc7
    have hw8:IntKind.u8.wrap (ch:Int)=ch:=by
     simp only [IntKind.wrap,IntKind.bits,IntKind.signed];simp;omega
    have HPl:=hide (fun W=>Jy x (A:=A2) (c:=c2) W);have HPu:=hide (fun (W:World) (hb:Below wn.heap.size wn W)=>MM x hSx (hTx.below hb) hc2);have Hbx:=hide (And.intro hbxn (And.intro hbn (And.intro hitn hB)));have d0:=hbxn.cell 0;have d1:=hbxn.cell 1;simp only [List.getElem?_toArray,List.getElem?_cons_zero,List.getElem?_cons_succ] at d0 d1;have Hip:=hide hip;have hi13:i<100:=by omega
    have HIt:=hide (fun W=>Tryz.strconv_Itoa_small i hi13 W);have Hol:=hide (And.intro hol (And.intro hpl hpe));clear hx hcc hit hwn hbn hbxn hitn hip hmemc hfc hSx HI hpl hpe hol hTx;unfold dV at HPl HPu;have HAt:=hide (fun (W:World) (b:Nat) (ps:List (List UInt8)) (k:Int) (h:aT W (aH b) ps k)=>kL (word (m:Int)) b h);unfold aH at HAt;have hlt3:w.heap.size<wn.heap.size:=Hbx.out.1.lt
    by_cases hch:x.k=ch
    ·have ek:((x.k:Int) == (ch:Int))=true:=Tt hch
     cases hp:bz x with
     | false =>
      have HE:=hide (show ic m (encS m l)=some ([(word (m:Int)).data.toList,Lib.decDigits i],3) from by
       rw [←hgo2.out,hgo.out,if_neg (by rw [hp];simp)]
       rfl)
      rw [hp] at HPl;have HOf:=hide (fun W=>bH ⟨(Lib.decDigits i).toArray⟩ 3 (by decide) W);unfold aH at HOf;have hbn:=Hbx.out.2.1;clear HPu hgo hgo2 hp hch
      go_wp2_with (first
      | (go_at_call 119;refine (HPl.out _).mono ?_;rintro e w4 ⟨rfl,hb4⟩;have z0:=(Blk.below ((Hbx.out.1).alloc (.cells #[.int .u8 x.k,.int .i64 x.n,.string (bs x.s),.slice A2 x.l.length c2] 60)) hb4 (by simp;omega)).cell 0;simp only [List.getElem?_toArray,List.getElem?_cons_zero] at z0)
      | (go_at_call 48;refine (HW.out _).mono ?_;rintro e w5 ⟨rfl,rfl⟩) | (go_at_call 93;refine (HIt.out _).mono ?_;rintro e w6 ⟨rfl,rfl⟩) | (go_at_call 43;refine (HOf.out _).mono ?_;rintro e w7 ⟨b7,rfl,hi7,hb7⟩) | (go_at_call 47;refine (HAt.out _ _ _ _ hi7).mono ?_;rintro e w8 ⟨b8,rfl,hi8,hb8⟩) | fail)
      go_ret2;exact ⟨by exact aa,.inr ⟨b8,_,3,HE.out,rfl,hi8⟩⟩
     | true =>
      rw [hp] at HPl
      by_cases he:(aG x).1=0
      ·have hpl:=Hol.out.2.1
       have hol:=Hol.out.1;unfold rD at HPu
       by_cases hL:32768<(out++(aG x).2).length
       ·have HE:=hide (show ic m (encS m l)=some ([(word (m:Int)).data.toList],2) from by
         rw [←hgo2.out,hgo.out,if_pos ⟨hch,hp⟩,if_pos he,if_pos hL]
         rfl)
        have HOf:=hide (fun W=>bH (word (m:Int)) 2 (by decide) W);unfold aH at HOf;rw [he] at HPu;generalize (aG x).2=bb at HPu hL hpl;have hL1:(32768:Int)<((bs (out++bb)).size:Int):=by rw [aR];omega
        have hL2:(32768:Int)<(out.length:Int)+(bb.length:Int):=by rw [List.length_append] at hL;omega
        have hL3:(32768:Int)<((out.length+bb.length:Nat):Int):=by omega
        have hbn:=Hbx.out.2.1;clear hgo hgo2 hp hch he hL Hol
        go_wp2_with (first
         | (go_at_call 119;refine (HPl.out _).mono ?_;rintro e w4 ⟨rfl,hb4⟩;obtain ⟨y0,y1,y2,y3⟩:=NA hb4;have hbx4:=Blk.below ((Hbx.out.1).alloc (.cells #[.int .u8 x.k,.int .i64 x.n,.string (bs x.s),.slice A2 x.l.length c2] 60)) hb4 (by simp;omega))
         | (go_at_call 120;refine (HPu.out _ (by exact aa)).mono ?_;rintro e w9 ⟨rfl,hb9⟩;have z0:=(hbx4.below hb9 hbx4.lt).cell 0;simp only [List.getElem?_toArray,List.getElem?_cons_zero] at z0)
         | (go_at_call 48;refine (HW.out _).mono ?_;rintro e w5 ⟨rfl,rfl⟩)
         | (go_at_call 43;refine (HOf.out _).mono ?_;rintro e w7 ⟨b7,rfl,hi7,hb7⟩)
         | fail)
        go_ret2;exact ⟨by exact aa,.inr ⟨b7,_,2,HE.out,rfl,hi7⟩⟩
       ·have HE:=hide (show gV (f.data.toList.drop (i+1)) (l.drop (i+1)) (i+1) (out++(aG x).2)=encS m l from by
         rw [←hgo2.out,hgo.out,if_pos ⟨hch,hp⟩,if_pos he,if_neg hL])
        rw [he] at HPu;generalize (aG x).2=bb at HPu hL hpl HE;have hL1:¬ (32768:Int)<((bs (out++bb)).size:Int):=by rw [aR];omega
        have hL2:¬ (32768:Int)<(out.length:Int)+(bb.length:Int):=by rw [List.length_append] at hL;omega
        have hL3:¬ (32768:Int)<((out.length+bb.length:Nat):Int):=by omega
        have HL9:=hide (Nat.le_of_not_lt hL);have hbn:=Hbx.out.2.1;clear hgo hgo2 hp hch he hL Hol
        go_wp2_with (first
         | (go_at_call 119;refine (HPl.out _).mono ?_;rintro e w4 ⟨rfl,hb4⟩;obtain ⟨y0,y1,y2,y3⟩:=NA hb4;have hbx4:=Blk.below ((Hbx.out.1).alloc (.cells #[.int .u8 x.k,.int .i64 x.n,.string (bs x.s),.slice A2 x.l.length c2] 60)) hb4 (by simp;omega))
         | (go_at_call 120;refine (HPu.out _ (by exact aa)).mono ?_;rintro e w9 ⟨rfl,hb9⟩;have z0:=(hbx4.below hb9 hbx4.lt).cell 0;simp only [List.getElem?_toArray,List.getElem?_cons_zero] at z0)
         | fail)
        have hbw9:Below wn.heap.size wn w9:=by exact aa
        have hit9:w9.heap[B]?=some (.stringIter f (i+1)):=(hbw9.block B (Array.getElem?_eq_some_iff.1 Hbx.out.2.2.1).1).trans Hbx.out.2.2.1;refine ⟨⟨i+1,out++bb,rfl,by omega,hide ⟨by exact aa,hit9,hbx4.below hb9 hbx4.lt,HE.out,HL9.out⟩⟩,?_⟩;rw [iterPos_of hit9,Hip.out];omega
      ·have HE:=hide (show ic m (encS m l)=some ([(word (m:Int)).data.toList,Lib.decDigits i],(aG x).1) from by
        rw [←hgo2.out,hgo.out,if_pos ⟨hch,hp⟩,if_neg he]
        rfl)
       have HOf:=hide (fun W=>bH ⟨(Lib.decDigits i).toArray⟩ ((aG x).1:Nat) (by rw [beq_eq_false_iff_ne];omega) W);unfold aH at HOf;have ee:((((aG x).1:Nat):Int) == 0)=false:=by rw [beq_eq_false_iff_ne];omega
       have ee2:((((aG x).1:Nat):Int) != 0)=true:=by simp [bne,ee]
       unfold rD at HPu;generalize aG x=pp at HE HOf ee ee2 HPu;have hbn:=Hbx.out.2.1;clear hgo hgo2 hp hch he Hol
       go_wp2_with (first
       | (go_at_call 119;refine (HPl.out _).mono ?_;rintro e w4 ⟨rfl,hb4⟩;obtain ⟨y0,y1,y2,y3⟩:=NA hb4;have hbx4:=Blk.below ((Hbx.out.1).alloc (.cells #[.int .u8 x.k,.int .i64 x.n,.string (bs x.s),.slice A2 x.l.length c2] 60)) hb4 (by simp;omega))
       | (go_at_call 120;refine (HPu.out _ (by exact aa)).mono ?_;rintro e w9 ⟨rfl,hb9⟩;have z0:=(hbx4.below hb9 hbx4.lt).cell 0;simp only [List.getElem?_toArray,List.getElem?_cons_zero] at z0)
       | (go_at_call 48;refine (HW.out _).mono ?_;rintro e w5 ⟨rfl,rfl⟩) | (go_at_call 93;refine (HIt.out _).mono ?_;rintro e w6 ⟨rfl,rfl⟩) | (go_at_call 43;refine (HOf.out _).mono ?_;rintro e w7 ⟨b7,rfl,hi7,hb7⟩) | (go_at_call 47;refine (HAt.out _ _ _ _ hi7).mono ?_;rintro e w8 ⟨b8,rfl,hi8,hb8⟩) | fail)
       go_ret2;exact ⟨by exact aa,.inr ⟨b8,_,pp.1,HE.out,rfl,hi8⟩⟩
    ·have ek:((x.k:Int) == (ch:Int))=false:=iX hch
     have HE:=hide (show ic m (encS m l)=some ([(word (m:Int)).data.toList,Lib.decDigits i],3) from by
      rw [←hgo2.out,hgo.out,if_neg (fun h9=>hch h9.1)]
      rfl)
     have HOf:=hide (fun W=>bH ⟨(Lib.decDigits i).toArray⟩ 3 (by decide) W);unfold aH at HOf;have hbn:=Hbx.out.2.1;clear HPl HPu hgo hgo2 hch
     go_wp2_with (first
      | (go_at_call 48;refine (HW.out _).mono ?_;rintro e w5 ⟨rfl,rfl⟩) | (go_at_call 93;refine (HIt.out _).mono ?_;rintro e w6 ⟨rfl,rfl⟩) | (go_at_call 43;refine (HOf.out _).mono ?_;rintro e w7 ⟨b7,rfl,hi7,hb7⟩) | (go_at_call 47;refine (HAt.out _ _ _ _ hi7).mono ?_;rintro e w8 ⟨b8,rfl,hi8,hb8⟩) | fail)
     go_ret2;exact ⟨by exact aa,.inr ⟨b8,_,3,HE.out,rfl,hi8⟩⟩
   ·have hil:i=l.length:=by omega
    subst hil;have hnx:∀ty,(Instr.next (.pointer (some ⟨B,0,none⟩)) true ty).run Tryz.prog wr=_:=fun ty=>Lib.run_next_end_at wr B f l.length ty hit (by rw [Hsz.out];exact hlt)
    have HE:=hide (show encS m l=.ok out from by
     rw [←HI.out.go,List.drop_of_length_le (by omega)]
     rfl)
    have hbw:=HI.out.bel;clear hit hip HI;go_wp2_with fail;go_ret2;exact ⟨hbw,.inl ⟨out,HE.out,rfl⟩⟩
end
end Go.Proofs.YtnhekaepgpbijaaGreatDoor

namespace Go.Proofs.YtnhekaepgpbijaaGreatDoor
open Go.RowKit
def atL (ps:List (List UInt8)):List UInt8:=(ps.map (·++[32])).flatten
theorem NP {ps:List (List UInt8)} {i:Nat} (h:i<ps.length):atL (ps.take (i+1))=atL (ps.take i)++ps[i]++[32]:=by
 unfold atL;rw [List.take_succ_eq_append_getElem h,List.map_append,List.flatten_append,List.map_singleton,List.flatten_singleton,List.append_assoc]
theorem FZ {ps:List (List UInt8)} (h:∀p∈ps,p.length≤1000):(atL ps).length≤ps.length*1001:=by
 unfold atL
 induction ps with
 | nil=>simp
 | cons x l ih =>
  have h1:=h x (by simp);have h2:=ih (fun y hy=>h y (by simp [hy]));simp only [List.map_cons,List.flatten_cons,List.length_append,List.length_cons,List.length_nil];omega
section
variable {w : World}
theorem LV (b:Nat) {ps:List (List UInt8)} {k:Int} (hps:ps.length≤20) (hsz:∀p∈ps,p.length≤1000) (h:aT w (aH b) ps k) (hg:Hand w) :
  Calls Tryz.prog 59 #[aH b,.agg #[.int .i64 k,.string (bs (atL ps))]] w (fun e w'=>e=.returned (.bool true)∧Below w.heap.size w w'):=by
 have HP:=hide (fun (W:World) (hb:Below w.heap.size w W)=>NL b (by omega) (h.below hb) (hg.below hb));have HC:=hide (fun (W:World) (hb:Below w.heap.size w W)=>NF b (h.below hb) (hg.below hb));have HS:=hide (fun i=>show (atL (ps.take i)).length≤20*1001 from Nat.le_trans (FZ (ps:=ps.take i) (fun y hy=>hsz y (List.mem_of_mem_take hy))) (Nat.mul_le_mul_right 1001 (by rw [List.length_take];omega)));have HZ:=hide hsz;have hT:=hide (show atL (ps.take ps.length)=atL ps by rw [List.take_length]);have h0:(atL (ps.take 0))=[]:=rfl;have heq:((bs (atL ps)).toList == (bs (atL ps)).toList)=true:=beq_self_eq_true _;unfold aH at HP HC ⊢;clear h hg hsz;go_enter Tryz.func59,Tryz.ntmps59;go_wp2_with fail;have hb0:=(Below.refl w.heap.size w).alloc (Nat.le_refl _) (.cells #[.int .i64 k,.string (bs (atL ps))] 45);have hB0:=Blk.new w 45 #[.int .i64 k,.string (bs (atL ps))];refine (HP.out _ hb0).mono ?_;rintro e w1 ⟨A,c,rfl,hTx,hb1⟩;obtain ⟨A',c',hv,hA⟩:=hTx.open_;obtain ⟨rfl,rfl⟩:A'=A∧c'=c:=by injection hv with e1 _ e2;exact ⟨e1.symm,e2.symm⟩
 have hB1:=hB0.below hb1 hB0.lt;have hb01:=hb0.trans (hb1.mono hb0.size);have d0:=hB1.cell 0;have d1:=hB1.cell 1;simp only [List.getElem?_toArray,List.getElem?_cons_zero,List.getElem?_cons_succ] at d0 d1;have HC1:=hide (fun (W:World) (hb:Below w1.heap.size w1 W)=>HC.out W (hb01.trans (hb.mono hb01.size)));have hlt:=hB1.lt;have HD:=hide (And.intro d0 d1);clear hB0 hb0 hb1 hv HP HC hB1 hTx d0 d1;go_wp2_with fail
 go_loopw [5,7] (fun vs vi wr=>wr=w1∧∃i:Nat,vi=.int .i64 i∧i≤ps.length∧vs=.string (bs (atL (ps.take i)))) (fun _ vi _=>ps.length - (intOf vi).toNat)
 case atStart=>exact ⟨rfl,0,rfl,Nat.zero_le _,by rw [h0];rfl⟩
 case round =>
  obtain ⟨rfl,i,rfl,hi,rfl⟩:=hrel
  by_cases hlt2:i<ps.length
  ·obtain ⟨ad,rfl,had,hc⟩:=hA i hlt2
   have hii:(i:Int)<ps.length:=by omega
   have hi20:(i:Int)<20:=by omega
   have E:=hide (NP hlt2);have hs1:=HS.out i;have hs2:=HZ.out _ (List.getElem_mem hlt2);generalize ps[i]=y at hc E hs2;generalize atL (ps.take i)=z at E hs1 ⊢;clear heq hT h0;go_wp2_with fail;refine ⟨⟨trivial,i+1,by go_num,by omega,?_⟩,by simp [intOf];omega⟩;rw [E.out,show (⟨#[32]⟩:ByteArray)=bs [32] from rfl,EL]
  ·have hil:i=ps.length:=by omega
   subst hil;rw [hT.out];have hdr:Below wr.heap.size wr wr.drew:=(Below.refl _ _).drew;obtain ⟨d0,d1⟩:=HD.out;clear HS HZ hT h0 hA;go_wp2_with fail
   go_region_held3 (fun W=>W.cell? ⟨w.heap.size,0,none⟩=some (.int .i64 k)∧W.cell? ⟨w.heap.size,1,none⟩=some (.string (bs (atL ps))))
    (exact ⟨d0,d1⟩)
    (first
     | (go_at_call 107;refine (HC1.out _ hdr).mono ?_;rintro e w2 ⟨rfl,hb2⟩;replace d0:=((hdr.trans hb2).cell (p:=⟨w.heap.size,0,none⟩) hlt).trans d0;replace d1:=((hdr.trans hb2).cell (p:=⟨w.heap.size,1,none⟩) hlt).trans d1)
     | fail)
   all_goals go_wp2_with fail
   all_goals go_ret
   all_goals exact ⟨by simp,hb01.trans ((hdr.trans hb2).mono hb01.size)⟩
end
end Go.Proofs.YtnhekaepgpbijaaGreatDoor

namespace Go.Proofs.YtnhekaepgpbijaaGreatDoor
open Go.RowKit Go.ChangeShapes Go.WideShapes Go.Sort
def MS (x:Fld):Prop:=x.l.length≤20∧x.s.length≤2000∧∀y∈x.l,y.length≤2000
theorem MS.sz {x:Fld} (h:MS x):SzF x:=⟨by have:=h.2.1;omega,by have:=h.1;omega,fun y hy=>by have:=h.2.2 y hy;omega⟩
theorem MS.fit {x:Fld} (h:MS x):Dx x:=⟨by have:=h.2.1;omega,fun y hy=>by have:=h.2.2 y hy;omega⟩
def Tf (l:List Fld) (w:World) (e:Ending) (w':World):Prop:=∃b,e=.returned (.bool b)∧Below w.heap.size w w'∧(b=true→l.length≤20∧∀x∈l,MS x)
theorem Tf.no {l:List Fld} {w w':World} (h:Below w.heap.size w w'):Tf l w (.returned (.bool false)) w':=⟨false,rfl,h,fun h=>by cases h⟩
section
variable {w : World}
theorem MU {W:World} {b k:Nat} {n:Int} {s:List UInt8} (h:Blk W b 60 #[.int .u8 k,.int .i64 n,.string (bs s),.slice none 0 0]) (hk:k<256):kR W (some ⟨b,0,none⟩) [⟨k,n,s,[]⟩]:=by
 refine ⟨fun i x hx=>?_⟩
 cases i with
 | succ i=>simp at hx
 | zero =>
  simp only [List.getElem?_cons_zero,Option.some.injEq] at hx;subst hx;refine ⟨⟨b,0,none⟩,.slice none 0 0,rfl,h.lt,?_⟩;rw [Nat.zero_mul,bJ];exact ⟨h.cell 0,h.cell 1,h.cell 2,h.cell 3,yU W 0,hk⟩
end
section
variable {w : World}
theorem wM (num i:Int) {A:Option Addr} {n c:Nat} (w:World) (h:i<0∨(n:Int)≤i):Calls Tryz.prog 108 #[.agg #[.int .i64 num,.slice A n c],.int .i64 i] w (fun e w'=>e=.returned (.agg #[.int .u8 0,.int .i64 0,.string ⟨#[]⟩,.slice none 0 0])∧Below w.heap.size w w'):=by
 by_cases h0:i<0
 ·clear h
  go_enter Tryz.func108,Tryz.ntmps108;go_wp2_with fail;exact bodyPost_ret (v:=.agg #[.int .u8 0,.int .i64 0,.string ⟨#[]⟩,.slice none 0 0]) (by simp [results,Tryz.results108,go_sem]) rfl ⟨rfl,by exact aa⟩
 ·have h1:(n:Int)≤i:=by omega
  clear h;go_enter Tryz.func108,Tryz.ntmps108;go_wp2_with fail;exact bodyPost_ret (v:=.agg #[.int .u8 0,.int .i64 0,.string ⟨#[]⟩,.slice none 0 0]) (by simp [results,Tryz.results108,go_sem]) rfl ⟨rfl,by exact aa⟩
theorem Ih (w:World) (o:Obj) (t:TypeId) (cs:Array Value):Blk ((w.alloc o).alloc (.cells cs t)) (w.heap.size+1) t cs:=by
 have:=Blk.new (w.alloc o) t cs;simpa using this
theorem Td {w:World} {r:Nat} {t:TypeId} {o0 o1 o2 o3:Value} (h:Blk w r t #[o0,o1,o2,o3]) (v0 v1 v2 v3:Value) :
  Blk ((((w.setCell ⟨r,0,none⟩ v0).setCell ⟨r,1,none⟩ v1).setCell ⟨r,2,none⟩ v2).setCell ⟨r,3,none⟩ v3) r t #[v0,v1,v2,v3]:=by
 have h1:=(((h.set_ 0 v0).set_ 1 v1).set_ 2 v2).set_ 3 v3;simpa using h1
theorem Sk {B:Nat} {w0 w:World} {g:Nat} (hb:Below B w0 w) (hg:B≤g) (v0 v1 v2 v3:Value):Below B w0 ((((w.setCell ⟨g,0,none⟩ v0).setCell ⟨g,1,none⟩ v1).setCell ⟨g,2,none⟩ v2).setCell ⟨g,3,none⟩ v3) :=
 (((hb.setCell (p:=⟨g,0,none⟩) hg v0).setCell (p:=⟨g,1,none⟩) hg v1).setCell (p:=⟨g,2,none⟩) hg v2).setCell (p:=⟨g,3,none⟩) hg v3
def At4 (w:World) (p:Addr) (x:Fld) (lv:Value):Prop:=w.cell? p=some (.int .u8 x.k)∧w.cell? ⟨p.block,p.off+1,none⟩=some (.int .i64 x.n)∧w.cell? ⟨p.block,p.off+2,none⟩=some (.string (bs x.s))∧w.cell? ⟨p.block,p.off+3,none⟩=some lv
theorem At4.below {w w':World} {p:Addr} {x:Fld} {lv:Value} (h:At4 w p x lv) (hb:Below w.heap.size w w'):At4 w' p x lv:=by
 have hlt:=Ad h.1;exact ⟨(hb.cell hlt).trans h.1,(hb.cell (p:=⟨p.block,p.off+1,none⟩) hlt).trans h.2.1,(hb.cell (p:=⟨p.block,p.off+2,none⟩) hlt).trans h.2.2.1,(hb.cell (p:=⟨p.block,p.off+3,none⟩) hlt).trans h.2.2.2⟩
theorem zN (num:Int) (j:Nat) {ad:Addr} {n c:Nat} (h:j<n) (hn:n≤20) (x:Fld) {A2:Option Addr} {c2:Nat} (hq:At4 w (ad.add (j*4)) x (.slice A2 x.l.length c2)) :
  Calls Tryz.prog 108 #[.agg #[.int .i64 num,.slice (some ad) n c],.int .i64 j] w (fun ev w'=>ev=.returned (dV x (.slice A2 x.l.length c2))∧Below w.heap.size w w'):=by
 obtain ⟨W0,hW0⟩:∃W0,W0=(w.alloc (.cells #[.int .i64 num,.slice (some ad) n c] 55)).alloc (.cells #[.int .u8 0,.int .i64 0,.string ⟨#[]⟩,.slice none 0 0] 60):=⟨_,rfl⟩
 have hb0:Below w.heap.size w W0:=by rw [hW0];exact aa
 have hM0:Blk W0 w.heap.size 55 #[.int .i64 num,.slice (some ad) n c]:=by rw [hW0];exact (Blk.new w _ _).alloc _
 have hR0:Blk W0 (w.heap.size+1) 60 #[.int .u8 0,.int .i64 0,.string ⟨#[]⟩,.slice none 0 0]:=by rw [hW0];exact Ih w _ _ _
 obtain ⟨q0,q1,q2,q3⟩:=hq.below hb0;have m1:=hM0.cell 1;have r0:=hR0.cell 0;have r1:=hR0.cell 1;have r2:=hR0.cell 2;have r3:=hR0.cell 3;have t0:=hR0.frozen 0;have t1:=hR0.frozen 1;have t2:=hR0.frozen 2;have t3:=hR0.frozen 3;simp at m1 r0 r1 r2 r3;have hj0:¬ (j:Int)<0:=by omega
 have hjn:(j:Int)<n:=by omega
 have hF:=hide (Td hR0 (.int .u8 x.k) (.int .i64 x.n) (.string (bs x.s)) (.slice A2 x.l.length c2));have Hb:=hide (Sk hb0 (Nat.le_succ w.heap.size) (.int .u8 x.k) (.int .i64 x.n) (.string (bs x.s)) (.slice A2 x.l.length c2));clear hb0 hM0 hR0 hq;unfold dV;go_enter Tryz.func108,Tryz.ntmps108;go_upto_region 1 with fail;rw [←hW0];clear hW0;go_wp2_with fail;have hF:=hF.out;generalize ((((W0.setCell ⟨w.heap.size+1,0,none⟩ (.int .u8 x.k)).setCell ⟨w.heap.size+1,1,none⟩ (.int .i64 x.n)).setCell ⟨w.heap.size+1,2,none⟩ (.string (bs x.s))).setCell ⟨w.heap.size+1,3,none⟩ (.slice A2 x.l.length c2))=wF at hF Hb ⊢;have p0:=hF.cell 0;have p1:=hF.cell 1;have p2:=hF.cell 2;have p3:=hF.cell 3;simp at p0 p1 p2 p3;exact bodyPost_ret (v:=.agg #[.int .u8 x.k,.int .i64 x.n,.string (bs x.s),.slice A2 x.l.length c2]) (by simp [results,Tryz.results108,go_sem,p0,p1,p2,p3]) rfl ⟨rfl,Hb.out⟩
end
end Go.Proofs.YtnhekaepgpbijaaGreatDoor
