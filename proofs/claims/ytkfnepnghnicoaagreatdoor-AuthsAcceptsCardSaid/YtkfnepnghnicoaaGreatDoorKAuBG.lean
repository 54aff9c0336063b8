/-
  Several of my texts in one: AuF, AuV, AuW, AuN, AuB, AuC.
-/
import Derived.Test.YtkfnepnghnicoaaGreatDoorKAuEG
import Derived.Test.YtkfnepnghnicoaaGreatDoorKCfX0G
import Derived.Test.YtkfnepnghnicoaaGreatDoorKAuJG
set_option linter.unusedVariables false
set_option linter.unusedSimpArgs false
set_option maxHeartbeats 40000000
set_option maxRecDepth 100000
namespace Go.Proofs.YtkfnepnghnicoaaGreatDoor
open Go.RowKit Go.ChangeShapes Go.WideShapes Go.Sort
section
variable {w0 W W' : World} {B g lo hi bs_ bg : Nat} {A9 A8 : Option Addr} {c9 c8 : Nat} {gr : List (List UInt8 × Int)} {al : List (List UInt8)} {lim n : Int} {sid : Option Tm} {T T' : List Tm} {S S' : Nat → Prop} {s : SvS}
theorem step_read (h:SrvM w0 B g lo hi bs_ bg A9 c9 gr A8 c8 al lim n sid T S s W) {num:Nat} {A:Option Addr} {c:Nat} {l:List Fld} (FK:∀S' W',Grown S W S' W'→Flds W' A l) (hln:l.length≤20) (hsz:∀i,(atF l i).s.length≤3100) (hT:T.length≤700000) (hf:(s.fl:Int)<lim) (hl:s.fl≤1000) (hgl:gr.length≤1000) (hal:al.length≤1000) (h3:s.ph=1) :
  Calls Tryz.prog 33 #[.pointer (some ⟨bs_,0,none⟩),.agg #[.int .i64 50,.slice A l.length c]] W (KnwR w0 B g lo hi bs_ bg A9 c9 gr A8 c8 al lim n sid T S W 15000 (atF l 1).s (if (atF l 1).s≠connectL then failA s [serviceL] 13 else askA gr al lim sid s l)):=by
 generalize hq:(if (atF l 1).s≠connectL then failA s [serviceL] 13 else askA gr al lim sid s l)=o
 have Hq:=hide hq
 clear hq
 obtain ⟨W0,hW0⟩:∃W0,W0=W.alloc (.cells #[.int .i64 50,.slice A l.length c] 69):=⟨_,rfl⟩
 have hb0:Below W.heap.size W W0:=by rw [hW0];exact bel_newF _
 have hX:Blk W0 W.heap.size 69 #[.int .i64 50,.slice A l.length c]:=by rw [hW0];exact Blk.new W _ _
 have hM0:=h.below hb0
 have x3:=hM0.sb.cell 3
 have m0:=hX.cell 0
 have m1:=hX.cell 1
 simp only [List.getElem?_toArray,List.getElem?_cons_zero,List.getElem?_cons_succ] at x3 m0 m1
 have HM0:=hide hM0
 have Hb0:=hide hb0
 rw [show (Value.int .i64 ((s.ph:Nat):Int))=.int .i64 1 from by rw [h3];rfl] at x3
 have hsL:=h.pay.ar.sL
 have nbm:¬ S W.heap.size:=fun h9=>by have:=hsL _ h9;omega
 have hX1:=hide hX
 have HR:=hide (aread_any hM0 (num:=50) (c:=c) (fun S' W' hG=>FK S' W' ((Grown.of_below hb0).trans hG)) hln (fun i=>Nat.le_trans (hsz i) (by decide)) (by omega))
 clear h hM0 hb0 hX h3 FK
 go_enter Tryz.func33,Tryz.ntmps33
 go_upto_region 1 with fail
 rw [←hW0]
 clear hW0
 go_wp2_with fail
 refine HR.out.mono ?_
 rintro e w1 ⟨T1,S1,nk,ns,rfl,hi5,hi6,hp1,hl1,hM1,hG1⟩
 have q1:=(hG1.outs.blk hX1.out nbm).cell 1
 have m1:w1.cell? ⟨W.heap.size,1,none⟩=some (.slice A l.length c):=by simpa using q1
 obtain ⟨w8,hw8⟩:∃W8,W8=w1.alloc (.cells #[.string (bs (atF l 0).s),.string (bs (atF l 1).s),.string (bs (atF l 2).s),.int .i64 (atF l 3).n,.string (bs (atF l 4).s),.int .i64 nk,.string (bs (atF l 5).s),.int .i64 ns] 142):=⟨_,rfl⟩
 have hB8:Blk w8 w1.heap.size 142 (saidV l nk ns):=by rw [hw8];exact Blk.new w1 _ _
 have hb8:Below w1.heap.size w1 w8:=by rw [hw8];exact bel_newF _
 have m8:w8.cell? ⟨W.heap.size,1,none⟩=some (.slice A l.length c):=cellB hb8 m1
 have HM8:=hide (hM1.below hb8)
 have HG8:=hide (((Grown.of_below Hb0.out).trans hG1).trans (Grown.of_below hb8))
 have Hpp:=hide (And.intro hp1 hl1)
 have Hii:=hide (And.intro hi5 hi6)
 have hs0:=hsz 0
 have hs1:=hsz 1
 have hs4:=hsz 4
 have hs5:=hsz 5
 have hs6:=hsz 6
 have HA:=hide (asks_any HM8.out hi5 hi6 (by omega) (by omega) (by omega) (by omega) (by omega) hf hl hgl hal)
 have HO:=hide (fun (V:World)=>fof_any ⟨#[115,101,114,118,105,99,101]⟩ 13 (by decide) V)
 unfold saidV at hB8
 have q0:=hB8.cell 0;have q1:=hB8.cell 1;have q2:=hB8.cell 2;have q3:=hB8.cell 3;have q4:=hB8.cell 4;have q5:=hB8.cell 5;have q6:=hB8.cell 6;have q7:=hB8.cell 7
 simp only [List.getElem?_toArray,List.getElem?_cons_zero,List.getElem?_cons_succ] at q0 q1 q2 q3 q4 q5 q6 q7
 clear hM1 hG1 hb8 hB8 hp1 hl1 hi5 hi6 HR m1 HM0
 unfold saidV
 go_upto_region 11 with fail
 rw [←hw8]
 clear hw8
 by_cases hc:(atF l 1).s=connectL
 ·have es:(!((bs (atF l 1).s).toList == ([115,115,104,45,99,111,110,110,101,99,116,105,111,110]:List UInt8)))=false:=by rw [bs_toList,hc];rfl
  have hq:=Hq.out
  rw [if_neg (fun h9=>h9 hc)] at hq
  rw [hq] at HA
  clear hq Hq hc HO
  unfold saidV at HA
  go_wp2_with fail
  refine HA.out.mono ?_
  rintro e w3 ⟨T3,S3,ev,er,rfl,hev,her,hp3,hl3,hM3,hG3⟩
  have Hf:=hide (And.intro hev (And.intro her (And.intro hp3 (And.intro hl3 (And.intro hM3 hG3)))))
  clear hev her hp3 hl3 hM3 hG3
  go_wp2_with fail
  go_ret3
  obtain ⟨hev,her,hp3,hl3,hM3,hG3⟩:=Hf.out
  exact ⟨T3,S3,ev,er,rfl,hev,her,Hpp.out.1.trans hp3,by have:=Hpp.out.2;omega,hM3,(HG8.out.sb _ _).trans hG3⟩
 ·have es:(!((bs (atF l 1).s).toList == ([115,115,104,45,99,111,110,110,101,99,116,105,111,110]:List UInt8)))=true:=by rw [Bool.not_eq_true',bs_toList,beq_eq_false_iff_ne];exact hc
  have hq:=Hq.out
  rw [if_pos hc] at hq
  subst hq
  clear Hq hc HA
  go_wp2_with fail
  refine (HO.out _).mono ?_
  rintro e w3 ⟨b,rfl,hi3,hb3⟩
  have Hi:=hide (And.intro hi3 hb3)
  clear hi3 hb3
  go_wp2_with fail
  go_ret3
  exact ⟨T1,S1,.slice none 0 0,errV b,rfl,rfl,Hi.out.1,Hpp.out.1,by have:=Hpp.out.2;omega,HM8.out.below Hi.out.2,(HG8.out.trans (Grown.of_below Hi.out.2)).sb _ _⟩
end
theorem flds_keepA {lo:Nat} {w w':World} {A:Option Addr} {l:List Fld} {S S':Nat→Prop} (h:FldsN lo w A l) (hG:Grown S w S' w') (hS:∀i,S i→i<lo):Flds w' A l :=
 h w' hG.size fun p h1 h2=>World.cell?_of_block (hG.block p.block h2 (fun h3=>by have:=hS _ h3;omega))
def DecK (p:List UInt8):Prop:=(∀num l,decS p=.ok num l→l.length≤20∧∀i,(atF l i).s.length≤3100)∧(decErr (decS p)=none→∃num l,decS p=.ok num l)
theorem stepA_sv (gr:List (List UInt8 × Int)) (al:List (List UInt8)) (lim:Int) (sid:Option Tm) (s:SvS) (num:Nat) (l:List Fld):(stepA gr al lim sid s num l).2.ev=none∨(atF l 1).s=connectL:=by
 unfold stepA
 split
 ·split <;> exact .inl rfl
 ·split
  ·exact .inl rfl
  ·split
   ·split
    ·exact .inl rfl
    ·rename_i h
     exact .inr (Decidable.not_not.1 h)
   ·exact .inl rfl
def OutV (w:World) (o:List UInt8) (v:Value):Prop:=(o=[]→v=.slice none 0 0)∧(o≠[]→∃b,v=.slice (some ⟨b,0,none⟩) 1 1∧Blk w b 9 #[.string (bs o)])
def TakR (w0:World) (B g lo hi bs_ bg:Nat) (A9:Option Addr) (c9:Nat) (gr:List (List UInt8 × Int)) (A8:Option Addr) (c8:Nat) (al:List (List UInt8)) (lim n:Int) (sid:Option Tm) (T:List Tm) (S:Nat→Prop) (W:World) (o:SvS × OutA) (e:Ending) (w':World):Prop :=
 ∃T' S' ov ev er,e=.returned (.tuple #[ov,ev,er])∧OutV w' o.2.out ov∧EvV w' n o.2.ev connectL ev∧ErV w' o.2.err er∧T <+: T'∧T'.length≤T.length+15000∧SrvM w0 B g lo hi bs_ bg A9 c9 gr A8 c8 al lim n sid T' S' o.1 w'∧Grown (SB bs_ bg S) W (SB bs_ bg S') w'
section
variable {w0 W W' : World} {B g lo hi bs_ bg : Nat} {A9 A8 : Option Addr} {c9 c8 : Nat} {gr : List (List UInt8 × Int)} {al : List (List UInt8)} {lim n : Int} {sid : Option Tm} {T T' : List Tm} {S S' : Nat → Prop} {s : SvS}
theorem step_any (h:SrvM w0 B g lo hi bs_ bg A9 c9 gr A8 c8 al lim n sid T S s W) {num:Nat} {A:Option Addr} {c:Nat} {l:List Fld} (FK:∀S' W',Grown S W S' W'→Flds W' A l) (hln:l.length≤20) (hsz:∀i,(atF l i).s.length≤3100) (hT:T.length≤700000) (hf:(s.fl:Int)<lim) (hl:s.fl≤1000) (hgl:gr.length≤1000) (hal:al.length≤1000) :
  Calls Tryz.prog 33 #[.pointer (some ⟨bs_,0,none⟩),.agg #[.int .i64 ((num:Nat):Int),.slice A l.length c]] W (KnwR w0 B g lo hi bs_ bg A9 c9 gr A8 c8 al lim n sid T S W 15000 (atF l 1).s (stepA gr al lim sid s num l)):=by
 have hF:Flds W A l:=FK S W (Grown.refl _ _)
 unfold stepA
 by_cases n5:num=5
 ·subst n5
  by_cases p0:s.ph=0
  ·rw [if_pos ⟨rfl,p0⟩]
   by_cases hs:(atF l 0).s=userauthL
   ·rw [if_pos hs]
    exact step_good h (num:=0) hF hln p0 hs
   ·rw [if_neg hs]
    exact step_bad h (num:=0) hF hln p0 hs
  ·rw [if_neg (fun h9=>p0 h9.2),if_neg (fun h9=>absurd h9.1 (by decide)),if_neg (fun h9=>absurd h9.1 (by decide))]
   exact step_o5 h (num:=0) p0
 ·rw [if_neg (fun h9=>n5 h9.1)]
  by_cases n50:num=50
  ·subst n50
   by_cases p2:s.ph=2
   ·rw [if_pos ⟨rfl,p2⟩]
    exact step_in h (num:=0) p2
   ·rw [if_neg (fun h9=>p2 h9.2)]
    by_cases p1:s.ph=1
    ·rw [if_pos ⟨rfl,p1⟩]
     exact step_read h (num:=0) FK hln hsz hT hf hl hgl hal p1
    ·rw [if_neg (fun h9=>p1 h9.2)]
     exact step_o50 h (num:=0) p1 p2
  ·rw [if_neg (fun h9=>n50 h9.1),if_neg (fun h9=>n50 h9.1)]
   exact step_o h n5 n50
theorem take_failed (h:SrvM w0 B g lo hi bs_ bg A9 c9 gr A8 c8 al lim n sid T S s W) (pl:ByteArray) (h3:s.ph=3):Calls Tryz.prog 10 #[.pointer (some ⟨bs_,0,none⟩),.string pl] W (TakR w0 B g lo hi bs_ bg A9 c9 gr A8 c8 al lim n sid T S W (takA gr al lim sid s pl.data.toList)):=by
 generalize hq:takA gr al lim sid s pl.data.toList=o
 have ho:o=(⟨3,s.fl⟩,⟨[],none,some ([authsL],7)⟩):=by rw [←hq];unfold takA;rw [if_pos h3];rfl
 have x3:=h.sb.cell 3
 simp only [List.getElem?_toArray,List.getElem?_cons_zero,List.getElem?_cons_succ] at x3
 rw [show (Value.int .i64 ((s.ph:Nat):Int))=.int .i64 3 from by rw [h3];rfl] at x3
 have HA:=hide (afail_any h (er:=.iface 42 (.int .i64 7)) (ps:=[]) (k:=7) rfl)
 have Ho:=hide ho
 clear h h3 hq ho
 go_enter Tryz.func10,Tryz.ntmps10
 go_wp2_with fail
 refine HA.out.mono ?_
 rintro e w3 ⟨b,rfl,hi3,hM3,hG3⟩
 have Hf:=hide (And.intro hi3 (And.intro hM3 hG3))
 clear hi3 hM3 hG3
 go_wp2_with fail
 go_ret3
 have ho:=Ho.out
 subst ho
 exact ⟨T,S,.slice none 0 0,.slice none 0 0,errV b,rfl,⟨fun _=>rfl,fun h9=>absurd rfl h9⟩,rfl,Hf.out.1,List.prefix_refl _,by omega,Hf.out.2.1,Hf.out.2.2⟩
end
theorem IsErr.shape {w:World} {v:Value} {ps:List (List UInt8)} {k:Int} (h:IsErr w v ps k):∃t u,v=.iface t u:=by
 cases ps with
 | nil=>exact ⟨_,_,h⟩
 | cons a r =>
  obtain ⟨b,v',e,_⟩:=h
  exact ⟨_,_,e⟩
theorem EvV.below {w w':World} {n:Int} {o:Option (Nat × List UInt8 × List UInt8)} {sv:List UInt8} {v:Value} (h:EvV w n o sv v) (hb:Below w.heap.size w w'):EvV w' n o sv v:=by
 cases o with
 | none=>exact h
 | some x =>
  obtain ⟨b,e,hB⟩:=h
  exact ⟨b,e,hB.below hb hB.lt⟩
theorem EvV.sv_ {w:World} {n:Int} {o:Option (Nat × List UInt8 × List UInt8)} {sv sv':List UInt8} {v:Value} (h:EvV w n o sv v) (hs:o=none∨sv=sv'):EvV w n o sv' v:=by
 rcases hs with e | e
 ·subst e
  exact h
 ·subst e
  exact h
section
variable {w0 W W' : World} {B g lo hi bs_ bg : Nat} {A9 A8 : Option Addr} {c9 c8 : Nat} {gr : List (List UInt8 × Int)} {al : List (List UInt8)} {lim n : Int} {sid : Option Tm} {T T' : List Tm} {S S' : Nat → Prop} {s : SvS}
theorem take_bad (h:SrvM w0 B g lo hi bs_ bg A9 c9 gr A8 c8 al lim n sid T S s W) (pl:ByteArray) (hpl:pl.size≤1000000) (h3:s.ph≠3) {ps:List (List UInt8)} {k:Nat} (hk:decErr (decS pl.data.toList)=some (ps,k)):Calls Tryz.prog 10 #[.pointer (some ⟨bs_,0,none⟩),.string pl] W (TakR w0 B g lo hi bs_ bg A9 c9 gr A8 c8 al lim n sid T S W (takA gr al lim sid s pl.data.toList)):=by
 generalize hq:takA gr al lim sid s pl.data.toList=o
 have ho:o=(⟨3,s.fl⟩,⟨[],none,some (authsL :: ps,(k:Int))⟩):=by
  rw [←hq]
  unfold takA
  rw [if_neg h3]
  cases hd:decS pl.data.toList with
  | ok num l=>rw [hd] at hk;cases hk
  | all e=>rw [hd] at hk;simp only;rw [hk];rfl
  | bad num R=>rw [hd] at hk;simp only;rw [hk];rfl
 have x3:=h.sb.cell 3
 simp only [List.getElem?_toArray,List.getElem?_cons_zero,List.getElem?_cons_succ] at x3
 have e3:(((s.ph:Nat):Int) == 3)=false:=by rw [beq_eq_false_iff_ne];omega
 generalize ((s.ph:Nat):Int)=p at x3 e3
 have HD:=hide (decode_anyN pl hpl h.pay.max.maxL)
 have HM:=hide h
 have Ho:=hide ho
 have Hk:=hide hk
 clear h h3 hq ho hk
 go_enter Tryz.func10,Tryz.ntmps10
 go_wp2_with fail
 refine HD.out.mono ?_
 rintro e w1 ⟨hb1,⟨num,l,A,c,hd,rfl,hF⟩ | ⟨b,ps',k',hk',rfl,hi1⟩⟩
 ·have hk:=Hk.out
  rw [hd] at hk
  cases hk
 ·rw [Hk.out] at hk'
  cases hk'
  obtain ⟨w2,hw2⟩:∃W2,W2=w1.alloc (.cells #[.int .i64 0,.slice none 0 0] 69):=⟨_,rfl⟩
  have hb2:Below w1.heap.size w1 w2:=by rw [hw2];exact bel_newF _
  have hb12:=hb1.trans (hb2.mono hb1.size)
  have HA:=hide (afail_any (HM.out.below hb12) (er:=.iface 135 (.pointer (some ⟨b,0,none⟩))) (ps:=ps) (k:=(k:Int)) (hi1.below hb2))
  have Hb:=hide hb12
  clear hb1 hb2 hb12 hi1 HD
  unfold errV
  go_upto_region 6 with fail
  rw [←hw2]
  clear hw2
  go_wp2_with fail
  refine HA.out.mono ?_
  rintro e w4 ⟨b9,rfl,hi4,hM4,hG4⟩
  have Hf:=hide (And.intro hi4 (And.intro hM4 hG4))
  clear hi4 hM4 hG4
  go_wp2_with fail
  go_ret3
  have ho:=Ho.out
  subst ho
  exact ⟨T,S,.slice none 0 0,.slice none 0 0,errV b9,rfl,⟨fun _=>rfl,fun h9=>absurd rfl h9⟩,rfl,Hf.out.1,List.prefix_refl _,by omega,Hf.out.2.1,((Grown.of_below Hb.out).sb _ _).trans Hf.out.2.2⟩
theorem take_step (h:SrvM w0 B g lo hi bs_ bg A9 c9 gr A8 c8 al lim n sid T S s W) (pl:ByteArray) (hpl:pl.size≤1000000) (hT:T.length≤700000) (hf:(s.fl:Int)<lim) (hl:s.fl≤1000) (hgl:gr.length≤1000) (hal:al.length≤1000) (h3:s.ph≠3) {num:Nat} {l:List Fld} (hd:decS pl.data.toList=.ok num l) (hln:l.length≤20) (hsz:∀i,(atF l i).s.length≤3100):Calls Tryz.prog 10 #[.pointer (some ⟨bs_,0,none⟩),.string pl] W (TakR w0 B g lo hi bs_ bg A9 c9 gr A8 c8 al lim n sid T S W (takA gr al lim sid s pl.data.toList)):=by
 generalize hq:takA gr al lim sid s pl.data.toList=o
 have ho:o=wrapA (stepA gr al lim sid s num l):=by
  rw [←hq]
  unfold takA
  rw [if_neg h3,hd]
 have x3:=h.sb.cell 3
 simp only [List.getElem?_toArray,List.getElem?_cons_zero,List.getElem?_cons_succ] at x3
 have e3:(((s.ph:Nat):Int) == 3)=false:=by rw [beq_eq_false_iff_ne];omega
 generalize ((s.ph:Nat):Int)=p at x3 e3
 have HD:=hide (decode_anyN pl hpl h.pay.max.maxL)
 have hsL:=h.pay.ar.sL
 have HM:=hide h
 have HS:=hide (fun (V:World) (hM:SrvM w0 B g lo hi bs_ bg A9 c9 gr A8 c8 al lim n sid T S s V) {A:Option Addr} {c:Nat} (FK:∀S' W',Grown S V S' W'→Flds W' A l)=>step_any hM (num:=num) (c:=c) FK hln hsz hT hf hl hgl hal)
 have hsv:=stepA_sv gr al lim sid s num l
 generalize stepA gr al lim sid s num l=r at ho HS hsv
 have Ho:=hide ho
 have Hd:=hide hd
 have Hsv:=hide hsv
 have HsL:=hide hsL
 clear h h3 hq ho hd hsv hsL hsz
 go_enter Tryz.func10,Tryz.ntmps10
 go_wp2_with fail
 refine HD.out.mono ?_
 rintro e w1 ⟨hb1,⟨num',l',A,c,hd,rfl,hF⟩ | ⟨b,ps',k',hk',rfl,hi1⟩⟩
 ·rw [Hd.out] at hd
  cases hd
  obtain ⟨w2,hw2⟩:∃W2,W2=w1.alloc (.cells #[.int .i64 ((num:Nat):Int),.slice A l.length c] 69):=⟨_,rfl⟩
  have hb2:Below w1.heap.size w1 w2:=by rw [hw2];exact bel_newF _
  have hX2:Blk w2 w1.heap.size 69 #[.int .i64 ((num:Nat):Int),.slice A l.length c]:=by rw [hw2];exact Blk.new w1 _ _
  have hb12:=hb1.trans (hb2.mono hb1.size)
  have HK:=hide (HS.out w2 (HM.out.below hb12) (c:=c) (fun S' W' hG=>flds_keepA (hF.below hb2) hG (fun i hi=>HsL.out i hi)))
  have m0:=hX2.cell 0
  have m1:=hX2.cell 1
  simp only [List.getElem?_toArray,List.getElem?_cons_zero,List.getElem?_cons_succ] at m0 m1
  have Hb:=hide hb12
  clear hb1 hb2 hb12 HD HS hF hX2
  generalize ((num:Nat):Int)=m at hw2 m0 HK ⊢
  go_upto_region 6 with fail
  rw [←hw2]
  clear hw2
  go_wp2_with fail
  refine HK.out.mono ?_
  rintro e w3 ⟨T3,S3,ev,er,rfl,hev,her,hp3,hl3,hM3,hG3⟩
  have hev:=hev.sv_ Hsv.out
  have HG3:=hide (((Grown.of_below Hb.out).sb bs_ bg).trans hG3)
  have Hp:=hide (And.intro hp3 hl3)
  have HM3:=hide hM3
  have Hev:=hide hev
  clear hp3 hl3 hM3 hG3 hev HK
  obtain ⟨s1,out,evv,err⟩:=r
  cases err with
  | some x =>
   obtain ⟨ps,k⟩:=x
   have HA:=hide (afail_any HM3.out her)
   obtain ⟨te,ue,rfl⟩:=IsErr.shape her
   clear her
   simp only
   go_wp2_with fail
   refine HA.out.mono ?_
   rintro e w4 ⟨b9,rfl,hi4,hM4,hG4⟩
   have Hf:=hide (And.intro hi4 (And.intro hM4 hG4))
   clear hi4 hM4 hG4
   go_wp2_with fail
   go_ret3
   have ho:=Ho.out
   subst ho
   exact ⟨T3,S3,.slice none 0 0,.slice none 0 0,errV b9,rfl,⟨fun _=>rfl,fun h9=>absurd rfl h9⟩,rfl,Hf.out.1,Hp.out.1,Hp.out.2,Hf.out.2.1,HG3.out.trans Hf.out.2.2⟩
  | none =>
   have her2:er=.nilIface:=her
   subst her2
   clear her
   simp only
   cases out with
   | nil =>
    have eo:((bs ([]:List UInt8)).toList == ([]:List UInt8))=true:=by rw [bs_toList];rfl
    go_wp2_with fail
    go_ret3
    have ho:=Ho.out
    subst ho
    exact ⟨T3,S3,.slice none 0 0,ev,.nilIface,rfl,⟨fun _=>rfl,fun h9=>absurd rfl h9⟩,Hev.out,rfl,Hp.out.1,Hp.out.2,HM3.out,HG3.out⟩
   | cons a q =>
    have eo:((bs (a :: q)).toList == ([]:List UInt8))=false:=by rw [bs_toList];rfl
    generalize hz:bs (a :: q)=z at eo ⊢
    have Hz:=hide hz
    clear hz
    go_wp2_with fail
    go_ret3
    have ho:=Ho.out
    have hz:=Hz.out
    subst ho hz
    exact ⟨T3,S3,_,ev,.nilIface,rfl,⟨(fun h9=>by cases h9),fun _=>⟨_,rfl,Blk.new _ _ _⟩⟩,Hev.out.below (bel_newF _),rfl,Hp.out.1,Hp.out.2,HM3.out.below (bel_newF _),HG3.out.trans ((Grown.of_below (bel_newF _)).sb _ _)⟩
 ·have hd:=Hd.out
  rw [hd] at hk'
  cases hk'
theorem take_any (h:SrvM w0 B g lo hi bs_ bg A9 c9 gr A8 c8 al lim n sid T S s W) (pl:ByteArray) (hpl:pl.size≤1000000) (hT:T.length≤700000) (hf:(s.fl:Int)<lim) (hl:s.fl≤1000) (hgl:gr.length≤1000) (hal:al.length≤1000) (hK:DecK pl.data.toList):Calls Tryz.prog 10 #[.pointer (some ⟨bs_,0,none⟩),.string pl] W (TakR w0 B g lo hi bs_ bg A9 c9 gr A8 c8 al lim n sid T S W (takA gr al lim sid s pl.data.toList)):=by
 by_cases h3:s.ph=3
 ·exact take_failed h pl h3
 ·cases hk:decErr (decS pl.data.toList) with
  | some x=>exact take_bad h pl hpl h3 (ps:=x.1) (k:=x.2) hk
  | none =>
   obtain ⟨num,l,hd⟩:=hK.2 hk
   exact take_step h pl hpl hT hf hl hgl hal h3 hd (hK.1 num l hd).1 (hK.1 num l hd).2
end
section
variable {w : World}
def GateR (gr:List (List UInt8 × Int)) (al:List (List UInt8)) (lim:Int) (w:World) (e:Ending) (w':World):Prop :=
 ∃b A9 c9 A8 c8,e=.returned (.tuple #[.pointer (some ⟨b,0,none⟩),.nilIface])∧Below w.heap.size w w'∧w.heap.size≤b∧Blk w' b 146 #[.slice A9 gr.length c9,.slice A8 al.length c8,.int .i64 lim,.int .i64 0] ∧
  w'.ownsRow w.heap.size 123 2 (.slice A9 gr.length c9) gr.length (flatG gr)∧w'.ownsRow w.heap.size 9 1 (.slice A8 al.length c8) al.length ((bss al).map Value.string)
theorem gnew_ok {A B:Option Addr} {c d:Nat} {gs:List (List UInt8 × Int)} {al:List (List UInt8)} {lim:Int} (h:GrC w A gs) (hl:gs.length≤1000000) (hy:∀g∈gs,g.1.length≤1000000)
  (h2:Txs w (.slice B al.length d) al) (hc2:al.length≤d) (hl2:al.length≤1000000) (hy2:∀y∈al,y.length≤1000000) (hE:denyE gs al lim=none) :
  Calls Tryz.prog 60 #[.slice A gs.length c,.slice B al.length d,.int .i64 lim] w (GateR gs al lim w):=by
 have HD:=deny_any (c:=c) (lim:=lim) h hl hy h2 hc2 hl2 hy2
 rw [hE] at HD
 have HD:=hide (errR_none HD)
 have HC:=hide (fun (V:World) (hb:Below w.heap.size w V)=>clone_gr (c:=c) (h.below hb).reads (flatG_one gs) hl)
 have HS:=hide (fun (V:World) (hb:Below w.heap.size w V)=>clone_own (ss:=al.map bs) (h2.below hb) (by rw [List.length_map];exact Nat.le_trans hl2 (by decide)))
 clear h h2 hE
 go_enter Tryz.func60,Tryz.ntmps60
 go_wp2_with fail
 refine HD.out.mono ?_
 rintro e w1 ⟨rfl,hb1⟩
 go_wp2_with fail
 refine (HC.out _ hb1).mono ?_
 rintro e w2 ⟨v9,rfl,ho9,hb2⟩
 obtain ⟨A9,c9,rfl⟩:=own_slN ho9
 have hb12:=hb1.trans (hb2.mono hb1.size)
 go_wp2_with fail
 refine (HS.out _ hb12).mono ?_
 rintro e w3 ⟨v8,rfl,ho8,hb3⟩
 obtain ⟨A8,c8,rfl⟩:=own_slN ho8
 have hb13:=hb12.trans (hb3.mono hb12.size)
 rw [List.length_map] at ho8
 rw [List.length_map]
 have ho9:=own_base (ho9.kept (only_of_below hb3 none) (by cases (Value.slice A9 gs.length c9).ownBlock <;> simp)) hb1.size
 have ho8:=own_base ho8 hb12.size
 have Hf:=hide (And.intro hb13 (And.intro ho9 ho8))
 clear hb1 hb2 hb3 hb12 hb13 ho9 ho8 HD HC HS
 go_wp2_with fail
 go_ret2
 obtain ⟨hb13,ho9,ho8⟩:=Hf.out
 have hbn:=bel_newF (w:=w3) (.cells #[.slice A9 gs.length c9,.slice A8 al.length c8,.int .i64 lim,.int .i64 0] 146)
 exact ⟨w3.heap.size,A9,c9,A8,c8,rfl,hb13.trans (hbn.mono hb13.size),hb13.size,Blk.new w3 _ _,ho9.kept (only_of_below hbn none) (by cases (Value.slice A9 gs.length c9).ownBlock <;> simp),ho8.kept (only_of_below hbn none) (by cases (Value.slice A8 al.length c8).ownBlock <;> simp)⟩
end
theorem fstE_all:∀(l:List ErrO),fstE l=none→∀o∈l,o=none
 | [],_,_,h=>by cases h
 | none :: r,h,o,ho=>by
  rcases List.mem_cons.1 ho with rfl | h2
  ·rfl
  ·exact fstE_all r h o h2
 | some _ :: _,h,_,_=>by cases h
theorem CfP.deny {c:CfP} (h:c.err=none) (hs:c.sv=true):denyE c.gr c.al c.lim=none:=by
 unfold CfP.err errC at h
 rw [if_pos hs] at h
 have h2:=fstE_all _ (inC_none h) (denyR (denyE c.gr c.al c.lim)) (by simp)
 cases hd:denyE c.gr c.al c.lim with
 | none=>rfl
 | some x=>rw [hd] at h2;cases h2
theorem deny_lim {gr:List (List UInt8 × Int)} {al:List (List UInt8)} {lim:Int} (h:denyE gr al lim=none):1≤lim∧lim≤20:=by
 unfold denyE at h
 split at h
 ·cases h
 ·split at h
  ·cases h
  ·split at h
   ·cases h
   ·omega
section
variable {w0 w : World} {B g : Nat} {n : Int} {sid : Option Tm} {T : List Tm} {S : Nat → Prop}
theorem anew_bad (c:CfP) {cv:Array Value} (hcv:CvP c cv) (hM:MethV w) (hW:WordV w) (h:c.M w) (pa:Value) (n:Int) {ps:List (List UInt8)} {k:Int} (he:c.err=some (ps,k)) :
  Calls Tryz.prog 24 #[pa,.agg cv,.int .i64 n] w (fun e w'=>∃b,e=.returned (.tuple #[.pointer none,errV b])∧IsErr w' (errV b) (authsL :: ps) k∧Below w.heap.size w w'):=by
 obtain ⟨W0,hW0⟩:∃W0,W0=w.alloc (.cells cv 30):=⟨_,rfl⟩
 have hb0:Below w.heap.size w W0:=by rw [hW0];exact bel_newF _
 have hX:Blk W0 w.heap.size 30 cv:=by rw [hW0];exact Blk.new w _ _
 have HC:=c.check (hM.below hb0) (hW.below hb0) (h.below hb0)
 rw [he,hcv.val] at HC
 have hl:=hcv.len
 have HC:=hide (errR_some HC)
 have HF:=hide (fun (V:World) (b:Nat) (hi:IsErr V (errV b) ps k)=>fat_err ⟨#[97,117,116,104,115]⟩ hi)
 have Hb0:=hide hb0
 clear hM hW h he hcv hb0
 go_enter Tryz.func24,Tryz.ntmps24
 go_upto_region 1 with fail
 rw [←hW0]
 clear hW0
 refine wp_region_lit ?_
 refine wpList_load_conf rfl (.tmp 4) rfl (by rfl) hX hl ?_
 try simp only [Act.put,List.setIfInBounds_toArray,List.set_cons_zero,List.set_cons_succ]
 refine wpList_call_ (f:=58) rfl (by go_simp) HC.out ?_
 rintro e w1 ⟨b,rfl,hi1,hb1⟩
 refine ⟨_,rfl,?_⟩
 try simp only [Act.put,List.setIfInBounds_toArray,List.set_cons_zero,List.set_cons_succ]
 have HF:=hide (HF.out _ _ hi1)
 have Hb:=hide (Hb0.out.trans (hb1.mono Hb0.out.size))
 clear hi1 hb1 HC hX hl
 unfold errV at HF ⊢
 go_wp2_with fail
 refine HF.out.mono ?_
 rintro e w2 ⟨b2,rfl,hi2,hb2⟩
 have Hi:=hide (And.intro hi2 (Hb.out.trans (hb2.mono Hb.out.size)))
 clear hi2 hb2
 go_wp2_with fail
 go_ret2
 exact ⟨b2,rfl,Hi.out.1,Hi.out.2⟩
theorem anew_arg (c:CfP) {cv:Array Value} (hcv:CvP c cv) (hM:MethV w) (hW:WordV w) (h:c.M w) (hA:Ar B w g T S) (hid:Idn T sid n) (he:c.err=none) (hs:c.sv=false∨sid=none) :
  Calls Tryz.prog 24 #[.pointer (some ⟨g,0,none⟩),.agg cv,.int .i64 n] w (fun e w'=>∃b,e=.returned (.tuple #[.pointer none,errV b])∧IsErr w' (errV b) [authsL] 1∧Below w.heap.size w w'):=by
 obtain ⟨W0,hW0⟩:∃W0,W0=w.alloc (.cells cv 30):=⟨_,rfl⟩
 have hb0:Below w.heap.size w W0:=by rw [hW0];exact bel_newF _
 have hX:Blk W0 w.heap.size 30 cv:=by rw [hW0];exact Blk.new w _ _
 have HC:=c.check (hM.below hb0) (hW.below hb0) (h.below hb0)
 rw [he,hcv.val] at HC
 have hl:=hcv.len
 have HC:=hide (errR_none HC)
 have HO:=hide (fun (V:World)=>fof_any ⟨#[97,117,116,104,115]⟩ 1 (by decide) V)
 have HK:=hide (fun (V:World) (hb:Below w.heap.size w V)=>akind_any (hA.below hb) n)
 rw [hid.1] at HK
 have p0:=hcv.p0
 generalize c.sv=sv at p0 hs
 clear hM hW h he hcv hA hid
 go_enter Tryz.func24,Tryz.ntmps24
 go_upto_region 1 with fail
 rw [←hW0]
 clear hW0
 refine wp_region_lit ?_
 refine wpList_load_conf rfl (.tmp 4) rfl (by rfl) hX hl ?_
 try simp only [Act.put,List.setIfInBounds_toArray,List.set_cons_zero,List.set_cons_succ]
 refine wpList_call_ (f:=58) rfl (by go_simp) HC.out ?_
 rintro e w1 ⟨rfl,hb1⟩
 refine ⟨_,rfl,?_⟩
 try simp only [Act.put,List.setIfInBounds_toArray,List.set_cons_zero,List.set_cons_succ]
 have hX1:=hX.below hb1 hX.lt
 have Hb:=hide (hb0.trans (hb1.mono hb0.size))
 have x0:=(hX1.cell 0).trans p0
 clear hX1 hX hl p0 hb0 hb1 HC
 cases sv with
 | false =>
  go_wp2_with fail
  refine (HO.out _).mono ?_
  rintro e w2 ⟨b2,rfl,hi2,hb2⟩
  have Hi:=hide (And.intro hi2 (Hb.out.trans (hb2.mono Hb.out.size)))
  clear hi2 hb2
  unfold errV at Hi ⊢
  go_wp2_with fail
  go_ret2
  exact ⟨b2,rfl,Hi.out.1,Hi.out.2⟩
 | true =>
  have hn:sid=none:=hs.resolve_left (by decide)
  subst hn
  simp only at HK
  go_wp2_with fail
  refine (HK.out _ Hb.out).mono ?_
  rintro e w2 ⟨rfl,rfl⟩
  go_wp2_with fail
  refine (HO.out _).mono ?_
  rintro e w3 ⟨b2,rfl,hi2,hb2⟩
  have Hi:=hide (And.intro hi2 (Hb.out.trans (hb2.mono Hb.out.size)))
  clear hi2 hb2
  unfold errV at Hi ⊢
  go_wp2_with fail
  go_ret2
  exact ⟨b2,rfl,Hi.out.1,Hi.out.2⟩
def NewR (w0:World) (B g:Nat) (gr:List (List UInt8 × Int)) (al:List (List UInt8)) (lim n:Int) (sid:Option Tm) (T:List Tm) (S:Nat→Prop) (w:World) (e:Ending) (w':World):Prop :=
 ∃bs_ bg hi A9 c9 A8 c8,e=.returned (.tuple #[.pointer (some ⟨bs_,0,none⟩),.nilIface])∧SrvM w0 B g w.heap.size hi bs_ bg A9 c9 gr A8 c8 al lim n sid T S ⟨0,0⟩ w'∧Below w.heap.size w w'
theorem anew_ok (c:CfP) {cv:Array Value} (hcv:CvP c cv) (hM:MethV w) (hW:WordV w) (h:c.M w) (hP:Pay w0 B g T S w) (hid:Idn T sid n) (he:c.err=none) (hs:c.sv=true) {t:Tm} (ht:sid=some t) (hk:t.k≠0) :
  Calls Tryz.prog 24 #[.pointer (some ⟨g,0,none⟩),.agg cv,.int .i64 n] w (NewR w0 B g c.gr c.al c.lim n sid T S w):=by
 obtain ⟨W0,hW0⟩:∃W0,W0=w.alloc (.cells cv 30):=⟨_,rfl⟩
 have hb0:Below w.heap.size w W0:=by rw [hW0];exact bel_newF _
 have hX:Blk W0 w.heap.size 30 cv:=by rw [hW0];exact Blk.new w _ _
 have HC:=c.check (hM.below hb0) (hW.below hb0) (h.below hb0)
 rw [he,hcv.val] at HC
 have hl:=hcv.len
 have HC:=hide (errR_none HC)
 have HK:=hide (fun (V:World) (hb:Below w.heap.size w V)=>akind_any (hP.ar.below hb) n)
 rw [hid.1,ht] at HK
 simp only at HK
 have hk2:(((t.k:Nat):Int) == 0)=false:=by rw [beq_eq_false_iff_ne];omega
 generalize ((t.k:Nat):Int)=kd at HK hk2
 have HG:=hide (fun (V:World) (hb:Below w.heap.size w V)=>gnew_ok (w:=V) (c:=c.c9) (d:=c.c8) ((h.below hb).hgr) h.grl h.gry ((h.below hb).hal) h.alc h.all h.aly (c.deny he hs))
 have p0:=hcv.p0
 have p11:=hcv.p11
 have p13:=hcv.p13
 have p14:=hcv.p14
 rw [hs] at p0
 have HP:=hide (And.intro hP hid)
 clear hM hW h he hcv hP hid hs ht hk
 go_enter Tryz.func24,Tryz.ntmps24
 go_upto_region 1 with fail
 rw [←hW0]
 clear hW0
 refine wp_region_lit ?_
 refine wpList_load_conf rfl (.tmp 4) rfl (by rfl) hX hl ?_
 try simp only [Act.put,List.setIfInBounds_toArray,List.set_cons_zero,List.set_cons_succ]
 refine wpList_call_ (f:=58) rfl (by go_simp) HC.out ?_
 rintro e w1 ⟨rfl,hb1⟩
 refine ⟨_,rfl,?_⟩
 try simp only [Act.put,List.setIfInBounds_toArray,List.set_cons_zero,List.set_cons_succ]
 have hX1:=hX.below hb1 hX.lt
 have Hb:=hide (hb0.trans (hb1.mono hb0.size))
 have x0:=(hX1.cell 0).trans p0
 have x11:=(hX1.cell 11).trans p11
 have x13:=(hX1.cell 13).trans p13
 have x14:=(hX1.cell 14).trans p14
 clear hX1 hX hl p0 p11 p13 p14 hb0 hb1 HC
 go_wp2_with fail
 refine (HK.out _ Hb.out).mono ?_
 rintro e w2 ⟨rfl,rfl⟩
 clear HK
 go_wp2_with fail
 refine (HG.out _ Hb.out).mono ?_
 rintro e w3 ⟨bg,A9,c9,A8,c8,rfl,hb3,hle,hB3,ho9,ho8⟩
 have Hf:=hide (And.intro (Hb.out.trans (hb3.mono Hb.out.size)) (And.intro hle (And.intro hB3 (And.intro ho9 ho8))))
 clear hb3 hle hB3 ho9 ho8 HG x0 x11 x13 x14
 go_wp2_with fail
 go_ret2
 obtain ⟨hb3,hle,hB3,ho9,ho8⟩:=Hf.out
 have hbn:=bel_newF (w:=w3) (.cells #[.pointer (some ⟨g,0,none⟩),.int .i64 n,.pointer (some ⟨bg,0,none⟩),.int .i64 0] 95)
 have hb4:=hb3.trans (hbn.mono hb3.size)
 have hsz:=Hb.out.size
 have hs4:=hbn.size
 have hlt:=hB3.lt
 refine ⟨w3.heap.size,bg,w3.heap.size+1,A9,c9,A8,c8,rfl,?_,hb4⟩
 refine ⟨HP.out.1.below hb4,fun i hi=>.inl (HP.out.1.ar.sL i hi),by simp,HP.out.1.use.base,by omega,by omega,by omega,by omega,by omega,Blk.new w3 _ _,hB3.below hbn hB3.lt,?_,?_,fun i hi=>?_,fun i hi=>?_,HP.out.2⟩
 ·exact own_base (ho9.kept (only_of_below hbn none) (by cases (Value.slice A9 c.gr.length c9).ownBlock <;> simp)) hsz
 ·exact own_base (ho8.kept (only_of_below hbn none) (by cases (Value.slice A8 c.al.length c8).ownBlock <;> simp)) hsz
 ·have:=(ho9.lt i hi).2
  omega
 ·have:=(ho8.lt i hi).2
  omega
end
section
variable {w : World}
theorem told28_err {b:Nat} {ps:List (List UInt8)} {k:Int} (hk:k≠0) (hps:ps.length≤20) (hsz:∀p∈ps,p.length≤1000) (h:IsErr w (errV b) ps k) (hg:Hand w) :
  Calls Tryz.prog 9 #[errV b,.agg #[.int .i64 k,.string (bs (atL ps))]] w (fun e w'=>e=.returned (.bool true)∧Below w.heap.size w w'):=by
 have e0:(k == 0)=false:=by rw [beq_eq_false_iff_ne];exact hk
 have HW:=hide (fun (W:World) (hb:Below w.heap.size w W)=>wrgM_any b hps hsz (h.below hb) (hg.below hb))
 generalize bs (atL ps)=x at HW ⊢
 unfold errV at HW ⊢
 clear h hg hk hsz
 go_enter Tryz.func9,Tryz.ntmps9
 go_wp2_with fail
 refine (HW.out _ (by exact bel_by)).mono ?_
 rintro e w1 ⟨rfl,hb1⟩
 go_wp2_with fail
 go_ret
 exact ⟨rfl,by exact bel_by⟩
end
end Go.Proofs.YtkfnepnghnicoaaGreatDoor
