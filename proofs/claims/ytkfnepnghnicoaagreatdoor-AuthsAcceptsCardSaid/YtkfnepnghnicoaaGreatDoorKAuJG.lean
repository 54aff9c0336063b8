/-
  Several of my texts in one: AuM, AuG, AuA, AuI, AuJ.
-/
import Derived.Test.YtkfnepnghnicoaaGreatDoorKAuP
import Derived.Test.YtkfnepnghnicoaaGreatDoorKPayDG
import Derived.Test.YtkfnepnghnicoaaGreatDoorKCfAoG
import Derived.Test.YtkfnepnghnicoaaGreatDoorKAuH
import Derived.Test.YtkfnepnghnicoaaGreatDoorKSignCG
import Derived.Deep.RegionHeld3
import Derived.WalkMore
import Derived.Test.YtkfnepnghnicoaaGreatDoorKCfX0G
set_option linter.unusedVariables false
set_option linter.unusedSimpArgs false
set_option maxHeartbeats 40000000
set_option maxRecDepth 100000
namespace Go.Proofs.YtkfnepnghnicoaaGreatDoor
open Go.RowKit Go.ChangeShapes Go.WideShapes Go.Sort
def Zone (lo hi:Nat) (S:Nat→Prop):Prop:=∀i,S i→i<lo∨hi≤i
theorem Zone.no {lo hi:Nat} {S:Nat→Prop} (h:Zone lo hi S) {b:Nat} (h1:lo≤b) (h2:b<hi):¬ S b:=fun h3=>by
 rcases h b h3 with h4 | h4 <;> omega
theorem Zone.grown {lo hi:Nat} {S S':Nat→Prop} {w w':World} (h:Zone lo hi S) (hG:Grown S w S' w') (hh:hi≤w.heap.size):Zone lo hi S':=fun i h1=>by
 rcases hG.new i h1 with h2 | h2
 ·exact h i h2
 ·right
  omega
structure SrvM (w0:World) (B g lo hi bs_ bg:Nat) (A9:Option Addr) (c9:Nat) (gr:List (List UInt8 × Int)) (A8:Option Addr) (c8:Nat) (al:List (List UInt8)) (lim n:Int) (sid:Option Tm) (T:List Tm) (S:Nat→Prop) (s:SvS) (W:World):Prop where
 pay:Pay w0 B g T S W
 zone:Zone lo hi S
 hiw:hi≤W.heap.size
 lo0:B≤lo
 los:lo≤bs_
 his:bs_<hi
 log:lo≤bg
 hig:bg<hi
 ne:bs_≠bg
 sb:Blk W bs_ 95 #[.pointer (some ⟨g,0,none⟩),.int .i64 n,.pointer (some ⟨bg,0,none⟩),.int .i64 s.ph]
 gb:Blk W bg 146 #[.slice A9 gr.length c9,.slice A8 al.length c8,.int .i64 lim,.int .i64 s.fl]
 r9:W.ownsRow lo 123 2 (.slice A9 gr.length c9) gr.length (flatG gr)
 r8:W.ownsRow lo 9 1 (.slice A8 al.length c8) al.length ((bss al).map Value.string)
 h9:∀i,(Value.slice A9 gr.length c9).ownBlock=some i→i<hi
 h8:∀i,(Value.slice A8 al.length c8).ownBlock=some i→i<hi
 id:Idn T sid n
section
variable {w0 W W' : World} {B g lo hi bs_ bg : Nat} {A9 A8 : Option Addr} {c9 c8 : Nat} {gr : List (List UInt8 × Int)} {al : List (List UInt8)} {lim n : Int} {sid : Option Tm} {T T' : List Tm} {S S' : Nat → Prop} {s : SvS}
theorem SrvM.below (h:SrvM w0 B g lo hi bs_ bg A9 c9 gr A8 c8 al lim n sid T S s W) (hb:Below W.heap.size W W'):SrvM w0 B g lo hi bs_ bg A9 c9 gr A8 c8 al lim n sid T S s W' :=
 { h with pay:=h.pay.below hb,hiw:=Nat.le_trans h.hiw hb.size,sb:=h.sb.below hb h.sb.lt,gb:=h.gb.below hb h.gb.lt,r9:=h.r9.kept (only_of_below hb none) (by cases (Value.slice A9 gr.length c9).ownBlock <;> simp),r8:=h.r8.kept (only_of_below hb none) (by cases (Value.slice A8 al.length c8).ownBlock <;> simp) }
theorem SrvM.grown (h:SrvM w0 B g lo hi bs_ bg A9 c9 gr A8 c8 al lim n sid T S s W) (hG:Grown S W S' W') (hP:Pay w0 B g T' S' W') (hp:T <+: T'):SrvM w0 B g lo hi bs_ bg A9 c9 gr A8 c8 al lim n sid T' S' s W' :=
 { h with pay:=hP,zone:=h.zone.grown hG h.hiw,hiw:=Nat.le_trans h.hiw hG.size,sb:=hG.outs.blk h.sb (h.zone.no h.los h.his),gb:=hG.outs.blk h.gb (h.zone.no h.log h.hig),r9:=hG.outs.own h.r9 (fun i hi=>h.zone.no (h.r9.lt i hi).1 (h.h9 i hi)),r8:=hG.outs.own h.r8 (fun i hi=>h.zone.no (h.r8.lt i hi).1 (h.h8 i hi)),id:=h.id.pre hp }
theorem SrvM.row (h:SrvM w0 B g lo hi bs_ bg A9 c9 gr A8 c8 al lim n sid T S s W) {b:Nat} (k:W.grownBy W' (some b)) (hn:¬ S b) (hB:B≤b) (hb:hi≤b):SrvM w0 B g lo hi bs_ bg A9 c9 gr A8 c8 al lim n sid T S s W' :=
 { h with pay:=h.pay.kept k hn hB,hiw:=Nat.le_trans h.hiw k.size,sb:=h.sb.grown k (fun e=>by have:=Option.some.inj e;have:=h.his;omega),gb:=h.gb.grown k (fun e=>by have:=Option.some.inj e;have:=h.hig;omega),r9:=h.r9.kept k (.inr (fun e=>by have:=h.h9 _ e;omega)),r8:=h.r8.kept k (.inr (fun e=>by have:=h.h8 _ e;omega)) }
theorem SrvM.setPh (h:SrvM w0 B g lo hi bs_ bg A9 c9 gr A8 c8 al lim n sid T S s W) {ph:Nat} (k:W.grownBy W' (some bs_)) (hB:Blk W' bs_ 95 #[.pointer (some ⟨g,0,none⟩),.int .i64 n,.pointer (some ⟨bg,0,none⟩),.int .i64 ph]):SrvM w0 B g lo hi bs_ bg A9 c9 gr A8 c8 al lim n sid T S ⟨ph,s.fl⟩ W' :=
 { h with pay:=h.pay.kept k (h.zone.no h.los h.his) (Nat.le_trans h.lo0 h.los),hiw:=Nat.le_trans h.hiw k.size,sb:=hB,gb:=h.gb.grown k (fun e=>h.ne (Option.some.inj e).symm),r9:=h.r9.kept k (.inr (own_blk_ne h.r9 h.sb (by decide))),r8:=h.r8.kept k (.inr (own_blk_ne h.r8 h.sb (by decide))) }
theorem SrvM.setFl (h:SrvM w0 B g lo hi bs_ bg A9 c9 gr A8 c8 al lim n sid T S s W) {fl:Nat} (k:W.grownBy W' (some bg)) (hB:Blk W' bg 146 #[.slice A9 gr.length c9,.slice A8 al.length c8,.int .i64 lim,.int .i64 fl]):SrvM w0 B g lo hi bs_ bg A9 c9 gr A8 c8 al lim n sid T S ⟨s.ph,fl⟩ W' :=
 { h with pay:=h.pay.kept k (h.zone.no h.log h.hig) (Nat.le_trans h.lo0 h.log),hiw:=Nat.le_trans h.hiw k.size,gb:=hB,sb:=h.sb.grown k (fun e=>h.ne (Option.some.inj e)),r9:=h.r9.kept k (.inr (own_blk_ne h.r9 h.gb (by decide))),r8:=h.r8.kept k (.inr (own_blk_ne h.r8 h.gb (by decide))) }
end
def SB (b1 b2:Nat) (S:Nat→Prop) (i:Nat):Prop:=S i∨i=b1∨i=b2
section
variable {w w' : World} {S S' : Nat → Prop} {b1 b2 : Nat}
theorem Grown.sb (h:Grown S w S' w') (b1 b2:Nat):Grown (SB b1 b2 S) w (SB b1 b2 S') w' :=
 ⟨h.os,h.tape,h.output,h.size,fun i hi hn=>h.block i hi (fun h2=>hn (.inl h2)),fun i hi=>hi.imp (h.sub i) id,fun i hi=>by
  rcases hi with hi | hi
  ·exact (h.new i hi).imp .inl id
  ·exact .inl (.inr hi)⟩
theorem sb_1 (h:w.grownBy w' (some b1)):Grown (SB b1 b2 S) w (SB b1 b2 S) w' :=
 ⟨h.os,h.tape,h.output,h.size,fun i hi hn=>h.block i hi (fun e=>hn (.inr (.inl (Option.some.inj e)))),fun _ h=>h,fun _ h=>.inl h⟩
theorem sb_2 (h:w.grownBy w' (some b2)):Grown (SB b1 b2 S) w (SB b1 b2 S) w' :=
 ⟨h.os,h.tape,h.output,h.size,fun i hi hn=>h.block i hi (fun e=>hn (.inr (.inr (Option.some.inj e)))),fun _ h=>h,fun _ h=>.inl h⟩
def ErV (w:World) (o:Option (List (List UInt8) × Int)) (v:Value):Prop:=match o with
 | none=>v=.nilIface
 | some (ps,k)=>IsErr w v ps k
end
section
variable {w : World}
theorem gfull_any {bg:Nat} {lim:Int} {fl:Nat} (c2:w.cell? ⟨bg,2,none⟩=some (.int .i64 lim)) (c3:w.cell? ⟨bg,3,none⟩=some (.int .i64 fl)):Calls Tryz.prog 245 #[.pointer (some ⟨bg,0,none⟩)] w (fun e w'=>e=.returned (.bool (decide (lim≤(fl:Int))))∧Below w.heap.size w w'):=by
 go_enter Tryz.func245,Tryz.ntmps245
 go_upto_region 1 with fail
 go_quiet (fail)
 go_wp2_with fail
 go_ret
 exact ⟨rfl,by exact bel_by⟩
theorem gfail_any {bg:Nat} {A9 A8:Option Addr} {n9 c9 n8 c8:Nat} {lim:Int} {fl:Nat} (hB:Blk w bg 146 #[.slice A9 n9 c9,.slice A8 n8 c8,.int .i64 lim,.int .i64 fl]) (hf:(fl:Int)<lim) (hl:fl≤1000):Calls Tryz.prog 195 #[.pointer (some ⟨bg,0,none⟩)] w (fun e w'=>e=.returned (.bool (decide (lim≤((fl+1:Nat):Int))))∧w.grownBy w' (some bg)∧Blk w' bg 146 #[.slice A9 n9 c9,.slice A8 n8 c8,.int .i64 lim,.int .i64 ((fl+1:Nat):Int)]):=by
 have c2:=hB.cell 2
 have c3:=hB.cell 3
 simp only [List.getElem?_toArray,List.getElem?_cons_zero,List.getElem?_cons_succ] at c2 c3
 have HF1:=hide (gfull_any c2 c3)
 rw [decide_eq_false (by omega)] at HF1
 have HB:=hide hB
 have hw1:IntKind.i64.wrap ((fl:Int)+1)=(fl:Int)+1:=by rw [IntKind.wrap_i64];omega
 have e9:((fl+1:Nat):Int)=(fl:Int)+1:=by omega
 rw [e9]
 have E9:=hide e9
 clear e9
 clear hB c2 c3
 go_enter Tryz.func195,Tryz.ntmps195
 go_wp2_with fail
 refine HF1.out.mono ?_
 rintro e w1 ⟨rfl,hb1⟩
 have hB1:=HB.out.below hb1 HB.out.lt
 have c3:=hB1.cell 3
 have f3:=hB1.frozen 3
 simp only [List.getElem?_toArray,List.getElem?_cons_zero,List.getElem?_cons_succ] at c3
 have hB2:=hB1.set_ 3 (.int .i64 ((fl:Int)+1))
 simp at hB2
 have Hk:=hide (show w.grownBy (w1.setCell ⟨bg,3,none⟩ (.int .i64 ((fl:Int)+1))) (some bg) from only_trans (only_of_below hb1 (some bg)) (only_setCell (only_refl w1 (some bg)) (.inl rfl) _))
 obtain ⟨w2,hw2⟩:∃W,W=w1.setCell ⟨bg,3,none⟩ (.int .i64 ((fl:Int)+1)):=⟨_,rfl⟩
 have hB3:Blk w2 bg 146 #[.slice A9 n9 c9,.slice A8 n8 c8,.int .i64 lim,.int .i64 ((fl:Int)+1)]:=by rw [hw2];exact hB2
 rw [←hw2] at Hk
 have d2:=hB3.cell 2
 have d3:=hB3.cell 3
 simp only [List.getElem?_toArray,List.getElem?_cons_zero,List.getElem?_cons_succ] at d2 d3
 rw [←E9.out] at d3
 have HF2:=hide (gfull_any d2 d3)
 rw [E9.out] at HF2
 have HB3:=hide hB3
 clear hB1 hB2 hB3 d2 d3
 go_upto_region 3 with fail
 rw [←hw2]
 clear hw2 c3 f3
 go_wp2_with fail
 refine HF2.out.mono ?_
 rintro e w3 ⟨rfl,hb3⟩
 go_wp2_with fail
 go_ret
 exact ⟨rfl,only_trans Hk.out (only_of_below hb3 (some bg)),HB3.out.below hb3 HB3.out.lt⟩
theorem gfails_any {bg:Nat} {fl:Nat} (c3:w.cell? ⟨bg,3,none⟩=some (.int .i64 fl)):Calls Tryz.prog 34 #[.pointer (some ⟨bg,0,none⟩)] w (fun e w'=>e=.returned (.int .i64 fl)∧w=w'):=by
 go_enter Tryz.func34,Tryz.ntmps34
 go_wp2_with fail
 go_ret
 exact ⟨rfl,rfl⟩
end
section
variable {w0 W W' : World} {B g lo hi bs_ bg : Nat} {A9 A8 : Option Addr} {c9 c8 : Nat} {gr : List (List UInt8 × Int)} {al : List (List UInt8)} {lim n : Int} {sid : Option Tm} {T T' : List Tm} {S S' : Nat → Prop} {s : SvS}
theorem ghas_any (h:SrvM w0 B g lo hi bs_ bg A9 c9 gr A8 c8 al lim n sid T S s W) {key:Option Tm} {nk:Int} (hk:Idn T key nk) (user alg:List UInt8) (hgl:gr.length≤1000) (hal:al.length≤1000) :
  Calls Tryz.prog 116 #[.pointer (some ⟨bg,0,none⟩),.pointer (some ⟨g,0,none⟩),.string (bs user),.string (bs alg),.int .i64 nk] W (fun e w'=>e=.returned (.bool (hasG gr al user alg key))∧Below W.heap.size W w'):=by
 have HO:=hide (owner_any h.pay.ar hk)
 have HT:=hide (show Txs W (.slice A8 al.length c8) al from own_txs h.r8 (by simp [bss]))
 have HNh:=hide (fun (W':World) (hb:Below W.heap.size W W')=>nhas_any (HT.out.below hb) (by omega) alg)
 have HG:=hide (grc_own h.r9)
 have c0:=h.gb.cell 0
 have c1:=h.gb.cell 1
 simp only [List.getElem?_toArray,List.getElem?_cons_zero,List.getElem?_cons_succ] at c0 c1
 have hlt:=h.gb.lt
 have HC:=hide (And.intro c0 c1)
 clear h hk
 cases hp:isPb key with
 | false =>
  rw [hasG_no hp]
  rw [hp] at HO
  go_enter Tryz.func116,Tryz.ntmps116
  go_wp2
  go_step3
  go_upto_region 2 with (first | (go_at_call 49;refine HO.out.mono ?_;rintro e w1 ⟨rfl,hb1⟩) | fail)
  go_wp2_with fail
  try rw [Exit.noGoto_ret]
  go_ret
  exact ⟨rfl,hb1⟩
 | true =>
  rw [hp] at HO
  cases ha:decide (alg∈al) with
  | false =>
   rw [hasG_na ha]
   rw [ha] at HNh
   go_enter Tryz.func116,Tryz.ntmps116
   go_wp2
   go_step3
   go_upto_region 2 with (first | (go_at_call 49;refine HO.out.mono ?_;rintro e w1 ⟨rfl,hb1⟩) | fail)
   have c1:=cellB hb1 HC.out.2
   clear c0
   go_wp2_with fail
   refine (HNh.out _ hb1).mono ?_
   rintro e w2 ⟨rfl,rfl⟩
   go_wp2_with fail
   try rw [Exit.noGoto_ret]
   go_ret
   exact ⟨rfl,hb1⟩
  | true =>
   rw [hasG_of hp ha]
   rw [ha] at HNh
   generalize (whoO key:Nat)=who at HO ⊢
   clear hp ha HT
   go_enter Tryz.func116,Tryz.ntmps116
   go_wp2
   go_step3
   go_upto_region 2 with (first | (go_at_call 49;refine HO.out.mono ?_;rintro e w1 ⟨rfl,hb1⟩) | fail)
   have c1:=cellB hb1 HC.out.2
   have c0:=cellB hb1 HC.out.1
   go_wp2_with fail
   refine (HNh.out _ hb1).mono ?_
   rintro e w2 ⟨rfl,rfl⟩
   have Hb1:=hide hb1
   clear HO HNh
   go_wp2_with fail
   go_step3
   go_wp2_with fail
   clear c0 c1
   go_loopw [42,13] (fun vi vf wr=>∃i:Nat,vi=.int .i64 i∧vf=.bool false∧i≤gr.length∧Below W.heap.size W wr∧∀j,(hj:j<gr.length)→j<i→gr[j]≠(user,(who:Int))) (fun vi _ _=>gr.length - (intOf vi).toNat)
   case atStart=>exact ⟨0,rfl,rfl,Nat.zero_le _,Hb1.out,fun j _ h9=>by omega⟩
   case round =>
    obtain ⟨i,rfl,rfl,hi',hbr,hno⟩:=hrel
    have Hno:=hide hno
    by_cases hlt2:i<gr.length
    ·have hii:(i:Int)<gr.length:=by omega
     obtain ⟨ad,rfl,hab,d0,d1⟩:=HG.out i hlt2
     have d0:=(hbr.cell (p:=ad.add (i*2)) (by rw [block_of_add];exact hab)).trans d0
     have d1:=(hbr.cell (p:=⟨(ad.add (i*2)).block,(ad.add (i*2)).off+1,none⟩) (by rw [block_of_add];exact hab)).trans d1
     have Hpr:=hide (show gr[i]=(gr[i].1,gr[i].2) from rfl)
     generalize gr[i].1=gu at d0 Hpr
     generalize gr[i].2=gw at d1 Hpr
     by_cases e1:gu=user
     ·have x1:((bs gu).toList == (bs user).toList)=true:=by rw [e1];simp
      have x1':((bs gu).toList != (bs user).toList)=false:=by rw [e1];simp
      by_cases e2:gw=who
      ·have x2:(gw == (who:Int))=true:=by rw [e2];simp
       have HE:=hide (show decide ((user,(who:Int))∈gr)=true from decide_eq_true (by rw [←e1,← e2,← Hpr.out];exact List.getElem_mem hlt2))
       clear hno e1 e2 Hpr
       go_wp2_with fail
       try rw [Exit.noGoto_ret]
       go_ret
       exact ⟨by rw [HE.out];rfl,by exact bel_by⟩
      ·have x2:(gw == (who:Int))=false:=by rw [beq_eq_false_iff_ne];exact e2
       have HE:=hide (show ∀j,(hj:j<gr.length)→j<i+1→gr[j]≠(user,(who:Int)) from fun j hj h9=>by
        rcases Nat.lt_succ_iff_lt_or_eq.1 h9 with h8 | h8
        ·exact Hno.out j hj h8
        ·subst h8
         rw [Hpr.out]
         intro h7
         cases h7
         exact e2 rfl)
       clear hno e1 e2 Hpr
       go_wp2_with fail
       exact ⟨⟨i+1,by go_num,rfl,by omega,by exact bel_by,HE.out⟩,by simp [intOf];omega⟩
     ·have x1:((bs gu).toList == (bs user).toList)=false:=by rw [beq_eq_false_iff_ne,bs_toList,bs_toList];exact e1
      have x1':((bs gu).toList != (bs user).toList)=true:=by rw [bne_iff_ne,bs_toList,bs_toList];exact e1
      have HE:=hide (show ∀j,(hj:j<gr.length)→j<i+1→gr[j]≠(user,(who:Int)) from fun j hj h9=>by
       rcases Nat.lt_succ_iff_lt_or_eq.1 h9 with h8 | h8
       ·exact Hno.out j hj h8
       ·subst h8
        rw [Hpr.out]
        intro h7
        cases h7
        exact e1 rfl)
      clear hno e1 Hpr
      go_wp2_with fail
      exact ⟨⟨i+1,by go_num,rfl,by omega,by exact bel_by,HE.out⟩,by simp [intOf];omega⟩
    ·obtain rfl:i=gr.length:=by omega
     have hii:¬ (gr.length:Int)<gr.length:=by omega
     have HE:=hide (show decide ((user,(who:Int))∈gr)=false from decide_eq_false (fun h9=>by
      obtain ⟨j,hj,e⟩:=List.getElem_of_mem h9
      exact Hno.out j hj hj e))
     clear hno
     go_wp2_with fail
     try rw [Exit.noGoto_ret]
     go_ret
     exact ⟨by rw [HE.out];rfl,hbr⟩
end
structure CfP.W (c:CfP) (w:World):Prop where
 cw:CfW w c.sw c.cm c.us [.slice c.A0 c.n0 c.c0,.slice c.A1 c.n1 c.c1,.slice c.A2 c.n2 c.c2,.slice c.A3 c.n3 c.c3,.slice c.A4 c.n4 c.c4,.slice c.A5 c.n5 c.c5,.slice c.A6 c.n6 c.c6,.slice c.A7 c.n7 c.c7] c.ls c.A8 c.c8 c.al c.A9 c.gr c.A10 c.ky
 u0:IntKind.i64.wrap c.q0=c.q0
 u1:IntKind.i64.wrap c.q1=c.q1
 u2:IntKind.i64.wrap c.q2=c.q2
def CfP.fw (c:CfP):Bool:=fewC c.sw c.cm c.us c.ls c.al c.gr c.ky
theorem CfP.W.below {c:CfP} {w w':World} (h:c.W w) (hb:Below w.heap.size w w'):c.W w':=⟨CfW.below h.cw hb,h.u0,h.u1,h.u2⟩
theorem CfP.W.m {c:CfP} {w:World} (h:c.W w) (hf:c.fw=true):c.M w:=CfW.few h.cw hf
theorem CfP.fw_len {c:CfP} (hf:c.fw=true):c.al.length≤20∧c.gr.length≤20:=by
 unfold CfP.fw fewC at hf
 simp only [Bool.and_eq_true,decide_eq_true_eq] at hf
 obtain ⟨⟨⟨⟨⟨⟨⟨⟨_,h2⟩,h3⟩,_⟩,_⟩,_⟩,_⟩,_⟩,_⟩:=hf
 exact ⟨h2,h3⟩
theorem open_confP {w:World} {us0:List Value} (h:Shp.oks w confS us0):∃c:CfP,us0=c.cells.toList∧c.W w:=by
 obtain ⟨sv,ex,ge,sw,cm,us,own,lim,peer,q0,q1,q2,A0,n0,c0,A1,n1,c1,A2,n2,c2,A3,n3,c3,A4,n4,c4,A5,n5,c5,A6,n6,c6,A7,n7,c7,A8,c8,A9,c9,A10,c10,ls,al,gr,ky,rfl,hC,u0,u1,u2⟩:=open_conf h
 exact ⟨⟨sv,ex,ge,sw,cm,us,A0,A1,A2,A3,A4,A5,A6,A7,A8,A9,A10,n0,n1,n2,n3,n4,n5,n6,n7,c0,c1,c2,c3,c4,c5,c6,c7,c8,c9,c10,al,own,lim,peer,q0,q1,q2,gr,ky,ls⟩,rfl,hC,u0,u1,u2⟩
structure CvP (c:CfP) (cv:Array Value):Prop where
 val:c.val=.agg cv
 len:cv.toList.length=23
 one:cv.all (·.oneCell')=true
 p0:cv[0]?=some (.bool c.sv)
 p11:cv[11]?=some (.slice c.A8 c.al.length c.c8)
 p13:cv[13]?=some (.slice c.A9 c.gr.length c.c9)
 p14:cv[14]?=some (.int .i64 c.lim)
theorem conf_box (c:CfP):∃cv:Array Value,c.cells=cv∧CvP c cv:=by
 refine ⟨_,rfl,rfl,rfl,?_,rfl,rfl,rfl,rfl⟩
 unfold CfP.cells
 simp [Value.oneCell']
structure StB (w:World) (b:Nat) (cv:Array Value) (sid:ByteArray):Prop where
 blk:Blk w b 32 (cv++#[Value.string sid])
 size:cv.toList.length=23
section
variable {w w' : World} {b : Nat} {cv : Array Value} {sid : ByteArray}
theorem StB.below (h:StB w b cv sid) (hb:Below w.heap.size w w'):StB w' b cv sid:=⟨h.blk.below hb h.blk.lt,h.size⟩
theorem StB.sz (h:StB w b cv sid):cv.size=23:=by have:=h.size;simpa using this
theorem StB.at_ (h:StB w b cv sid) {i:Nat} {v:Value} (hi:cv[i]?=some v):w.cell? ⟨b,i,none⟩=some v:=by
 have hl:i<cv.size:=by
  rcases Nat.lt_or_ge i cv.size with h2 | h2
  ·exact h2
  ·rw [Array.getElem?_eq_none h2] at hi;cases hi
 rw [h.blk.cell i,Array.getElem?_append_left hl,hi]
theorem StB.sid_ (h:StB w b cv sid):w.cell? ⟨b,23,none⟩=some (.string sid):=by
 rw [h.blk.cell 23,Array.getElem?_append_right (by rw [h.sz];exact Nat.le_refl _),h.sz];rfl
theorem StB.range (h:StB w b cv sid):w.rangeAt b 0 cv.toList:=fun j v hv=>by
 rw [Nat.zero_add]
 exact h.at_ (by simpa using hv)
theorem StB.all (h:StB w b cv sid):w.rangeAt b 0 (cv++#[Value.string sid]).toList:=rangeC (by rw [Array.toArray_toList];exact h.blk)
theorem infoSetup:(Tryz.prog.info? 32).map (·.size)=some 24:=by kernel_rfl
theorem wpList_load_cf {ops:Array Oper} {rest:List Oper} {op:Oper} {a:Act} {Q:Exit→Act→World→Prop} (hw:Region.wanted op (yielded ops a.tmps)=true) (x:Operand) (ho:op.op=.load 30 x) (hx:a.eval x=.pointer (some ⟨b,0,none⟩)) (hX:StB w b cv sid)
  (h:wpList Tryz.prog ops Q rest (a.put op.dst (.agg cv)) w):wpList Tryz.prog ops Q (op :: rest) a w :=
 wpList_valG hw (by
  unfold execOp
  have key:=run_loadAt_mid (P:=Tryz.prog) w b 0 30 cv.toList _ hX.range Tryz.underlying30 rfl (by rw [hX.size];exact infoConf)
  rw [Array.toArray_toList] at key
  simp only [ho,hx]
  simp [Sem.run_bind,key]) h
theorem wpList_load_st {ops:Array Oper} {rest:List Oper} {op:Oper} {a:Act} {Q:Exit→Act→World→Prop} (hw:Region.wanted op (yielded ops a.tmps)=true) (x:Operand) (ho:op.op=.load 32 x) (hx:a.eval x=.pointer (some ⟨b,0,none⟩)) (hX:StB w b cv sid)
  (h:wpList Tryz.prog ops Q rest (a.put op.dst (.agg (cv++#[Value.string sid]))) w):wpList Tryz.prog ops Q (op :: rest) a w :=
 wpList_valG hw (by
  unfold execOp
  have key:=run_loadAt_mid (P:=Tryz.prog) w b 0 32 (cv++#[Value.string sid]).toList _ hX.all Tryz.underlying32 rfl (by rw [show (cv++#[Value.string sid]).toList.length=24 from by rw [Array.toList_append,List.length_append,hX.size];rfl];exact infoSetup)
  rw [Array.toArray_toList] at key
  simp only [ho,hx]
  simp [Sem.run_bind,key]) h
end
section
variable {w : World}
theorem CfP.few (c:CfP) (h:c.W w):Calls Tryz.prog 22 #[c.val] w (fun e w'=>e=.returned (.bool c.fw)∧Below w.heap.size w w'):=by
 obtain ⟨sv,ex,ge,sw,cm,us,A0,A1,A2,A3,A4,A5,A6,A7,A8,A9,A10,n0,n1,n2,n3,n4,n5,n6,n7,c0,c1,c2,c3,c4,c5,c6,c7,c8,c9,c10,al,own,lim,peer,q0,q1,q2,gr,ky,ls⟩:=c
 exact few25_any h.cw
def fewM (c:CfP) (sid:ByteArray) (l:List (List UInt8)):Bool:=decide (l.length≤20) && c.fw && decide (sid.size≤300) && l.all fun x=>decide (x.length≤3000)
theorem few28_any (c:CfP) (h:c.W w) {cv:Array Value} (hcv:CvP c cv) (sid:ByteArray) (hsd:sid.size≤maxLen) {A:Option Addr} {d:Nat} {l:List (List UInt8)} (hl:Txs w (.slice A l.length d) l) (hll:l.length≤maxLen) (hlz:∀x∈l,x.length≤maxLen) :
  Calls Tryz.prog 5 #[.agg (cv++#[Value.string sid]),.slice A l.length d] w (fun e w'=>e=.returned (.bool (fewM c sid l))∧Below w.heap.size w w'):=by
 obtain ⟨W0,hW0⟩:∃W0,W0=w.alloc (.cells (cv++#[Value.string sid]) 32):=⟨_,rfl⟩
 have hb0:Below w.heap.size w W0:=by rw [hW0];exact bel_newF _
 have hX:StB W0 w.heap.size cv sid:=⟨by rw [hW0];exact Blk.new w _ _,hcv.len⟩
 have HF:=hide (c.few (h.below hb0))
 rw [hcv.val] at HF
 have HT:=hide (hl.below hb0)
 have Hb0:=hide hb0
 generalize hcx:cv++#[Value.string sid]=cx at hW0
 unfold fewM
 clear hb0 h hl hcv
 by_cases h20:l.length≤20
 ·have g20:decide ((20:Int)<l.length)=false:=decide_eq_false (by omega)
  rw [decide_eq_true h20,Bool.true_and]
  have HZ:=hide (fun i (h9:i<l.length)=>hlz l[i] (List.getElem_mem h9))
  obtain ⟨A',d',hv,hA⟩:=HT.out.open_
  obtain ⟨rfl,rfl⟩:A'=A∧d'=d:=by injection hv with e1 _ e2;exact ⟨e1.symm,e2.symm⟩
  have x23:=hX.sid_
  have hi20:¬ (20:Int)<l.length:=by omega
  clear hv HT g20 hlz
  go_enter Tryz.func5,Tryz.ntmps5
  go_upto_region 1 with fail
  rw [←hW0]
  clear hW0 hcx
  refine wp_region_lit ?_
  refine wpList_valG (v:=.slice A' l.length d') (w':=W0) (by rfl) (by first | rfl | go_simp) ?_
  try simp only [Act.put,List.setIfInBounds_toArray,List.set_cons_zero,List.set_cons_succ]
  refine wpList_valG (v:=.int .i64 l.length) (w':=W0) (by rfl) (by first | rfl | go_simp) ?_
  try simp only [Act.put,List.setIfInBounds_toArray,List.set_cons_zero,List.set_cons_succ]
  refine wpList_valG (v:=.bool false) (w':=W0) (by rfl) (by first | rfl | go_simp) ?_
  try simp only [Act.put,List.setIfInBounds_toArray,List.set_cons_zero,List.set_cons_succ]
  refine wpList_valG (v:=.bool false) (w':=W0) (by rfl) (by first | rfl | go_simp) ?_
  try simp only [Act.put,List.setIfInBounds_toArray,List.set_cons_zero,List.set_cons_succ]
  refine wpList_valG (v:=.pointer (some ⟨w.heap.size,0,none⟩)) (w':=W0) (by rfl) (by first | rfl | go_simp) ?_
  try simp only [Act.put,List.setIfInBounds_toArray,List.set_cons_zero,List.set_cons_succ]
  refine wpList_load_cf (by rfl) (.tmp 10) rfl (by rfl) hX ?_
  try simp only [Act.put,List.setIfInBounds_toArray,List.set_cons_zero,List.set_cons_succ]
  refine wpList_callG (f:=22) (by rfl) (by first | rfl | go_simp) HF.out ?_
  rintro e w1 ⟨rfl,hb1⟩
  refine ⟨_,rfl,?_⟩
  try simp only [Act.put,List.setIfInBounds_toArray,List.set_cons_zero,List.set_cons_succ]
  have x23:=cellB hb1 x23
  have Hb1:=hide (Hb0.out.trans (hb1.mono Hb0.out.size))
  have HA:=hide (show ∀i,(h9:i<l.length)→∃ad,A'=some ad∧w1.cell? (ad.add i)=some (Value.string (bs l[i])) from fun i h9=>by
   obtain ⟨ad,e,hab,hc⟩:=hA i h9
   exact ⟨ad,e,(hb1.cell (p:=ad.add i) (by rw [block_of_add];exact hab)).trans hc⟩)
  clear hb1 hX HF Hb0 hA
  cases hc:c.fw with
  | false =>
   go_wp2_with fail
   go_ret
   exact ⟨by simp,Hb1.out⟩
  | true =>
   by_cases h300:sid.size≤300
   ·have hi300:¬ (300:Int)<sid.size:=by omega
    have E300:=hide (decide_eq_true h300)
    clear h300
    go_wp2_with fail
    go_loopw [5] (fun vi wr=>wr=w1∧∃i:Nat,vi=.int .i64 i∧i≤l.length∧Hid (∀j,(hj:j<l.length)→j<i→l[j].length≤3000)) (fun vi _=>l.length - (intOf vi).toNat)
    case atStart=>exact ⟨rfl,0,rfl,Nat.zero_le _,hide (fun j _ h9=>by omega)⟩
    case round =>
     obtain ⟨rfl,i,rfl,hi,Hno⟩:=hrel
     by_cases hlt2:i<l.length
     ·have hii:(i:Int)<l.length:=by omega
      obtain ⟨ad,rfl,hc2⟩:=HA.out i hlt2
      have hz:=HZ.out i hlt2
      have He:=hide (show l[i]=l[i] from rfl)
      generalize hy:l[i]=y at hc2 hz He
      have Hy:=hide hy
      clear hy
      have hys:(bs y).size=y.length:=rfl
      have hzz:(bs y).size≤maxLen:=hz
      generalize bs y=yb at hc2 hys hzz
      clear hz
      by_cases h3:y.length≤3000
      ·have hi3:¬ (3000:Int)<yb.size:=by rw [hys];omega
       have HE:=hide (show ∀j,(hj:j<l.length)→j<i+1→l[j].length≤3000 from fun j hj h9=>by
        rcases Nat.lt_succ_iff_lt_or_eq.1 h9 with h8 | h8
        ·exact Hno.out j hj h8
        ·subst h8
         rw [Hy.out]
         exact h3)
       clear hys h3
       go_wp2_with fail
       exact ⟨⟨trivial,i+1,by go_num,by omega,HE⟩,by simp [intOf];omega⟩
      ·have hi3:(3000:Int)<yb.size:=by rw [hys];omega
       have HE:=hide (show (l.all fun x=>decide (x.length≤3000))=false from by
        rw [List.all_eq_false]
        exact ⟨y,by rw [←Hy.out];exact List.getElem_mem hlt2,by simpa using h3⟩)
       clear hys h3
       go_wp2_with fail
       go_ret
       exact ⟨by rw [HE.out,E300.out];rfl,Hb1.out⟩
     ·obtain rfl:i=l.length:=by omega
      have hii:¬ (l.length:Int)<l.length:=by omega
      have HE:=hide (show (l.all fun x=>decide (x.length≤3000))=true from by
       rw [List.all_eq_true]
       intro x hx
       obtain ⟨j,hj,rfl⟩:=List.getElem_of_mem hx
       exact decide_eq_true (Hno.out j hj hj))
      go_wp2_with fail
      go_ret
      exact ⟨by rw [HE.out,E300.out];rfl,Hb1.out⟩
   ·have hi300:(300:Int)<sid.size:=by omega
    have E300:=hide (decide_eq_false h300)
    clear h300
    go_wp2_with fail
    go_ret
    exact ⟨by rw [E300.out];simp,Hb1.out⟩
 ·have g20:decide ((20:Int)<l.length)=true:=decide_eq_true (by omega)
  rw [decide_eq_false h20]
  go_enter Tryz.func5,Tryz.ntmps5
  go_wp2_with fail
  go_ret
  exact ⟨by simp,by exact bel_by⟩
end
section
variable {w0 W W' : World} {B g lo hi bs_ bg : Nat} {A9 A8 : Option Addr} {c9 c8 : Nat} {gr : List (List UInt8 × Int)} {al : List (List UInt8)} {lim n : Int} {sid : Option Tm} {T T' : List Tm} {S S' : Nat → Prop} {s : SvS}
theorem ain_any (h:SrvM w0 B g lo hi bs_ bg A9 c9 gr A8 c8 al lim n sid T S s W):Calls Tryz.prog 11 #[.pointer (some ⟨bs_,0,none⟩)] W (fun e w'=>e=.returned (.bool (decide (s.ph=2)))∧W=w'):=by
 have x3:=h.sb.cell 3
 simp only [List.getElem?_toArray,List.getElem?_cons_zero,List.getElem?_cons_succ] at x3
 have e:(((s.ph:Nat):Int) == 2)=decide (s.ph=2):=by
  by_cases h2:s.ph=2
  ·rw [h2];rfl
  ·rw [decide_eq_false h2,beq_eq_false_iff_ne];omega
 clear h
 generalize ((s.ph:Nat):Int)=p at x3 e
 rw [←e]
 clear e
 go_enter Tryz.func11,Tryz.ntmps11
 go_wp2_with fail
 go_ret
 exact ⟨rfl,rfl⟩
theorem afs_any (h:SrvM w0 B g lo hi bs_ bg A9 c9 gr A8 c8 al lim n sid T S s W):Calls Tryz.prog 12 #[.pointer (some ⟨bs_,0,none⟩)] W (fun e w'=>e=.returned (.int .i64 ((s.fl:Nat):Int))∧W=w'):=by
 have x2:=h.sb.cell 2
 have g3:=h.gb.cell 3
 simp only [List.getElem?_toArray,List.getElem?_cons_zero,List.getElem?_cons_succ] at x2 g3
 have HG:=hide (gfails_any g3)
 clear h g3
 go_enter Tryz.func12,Tryz.ntmps12
 go_wp2_with fail
 refine HG.out.mono ?_
 rintro e w1 ⟨rfl,rfl⟩
 go_wp2_with fail
 go_ret
 exact ⟨rfl,rfl⟩
end
def setupS:List Shp:=confS++[.s]
theorem oks_app {w:World}:∀(l m:List Shp) (us:List Value),Shp.oks w (l++m) us→∃u1 u2,us=u1++u2∧Shp.oks w l u1∧Shp.oks w m u2
 | [],m,us,h=>⟨[],us,rfl,trivial,h⟩
 | a :: l,m,us,h=>by
  obtain ⟨u,r,rfl,h1,h2⟩:=oks_consC (l:=l++m) h
  obtain ⟨u1,u2,rfl,h3,h4⟩:=oks_app l m r h2
  exact ⟨u :: u1,u2,rfl,⟨h1,h3⟩,h4⟩
theorem open_setup {w:World} {us:List Value} (h:Shp.oks w setupS us):∃(c:CfP) (sid:ByteArray),us=(c.cells++#[Value.string sid]).toList∧c.W w∧sid.size≤maxLen:=by
 obtain ⟨u1,u2,rfl,h1,h2⟩:=oks_app confS [.s] us h
 obtain ⟨c,rfl,hc⟩:=open_confP h1
 match u2,h2 with
 | [u],h2 =>
  simp only [Shp.oks,Shp.ok,and_true] at h2
  obtain ⟨s,rfl,hs⟩:=h2
  refine ⟨c,s,?_,hc,hs⟩
  simp
 | [],h2=>simp [Shp.oks] at h2
 | _ :: _ :: _,h2=>simp [Shp.oks] at h2
theorem open_msgs {w:World} {v:Value} (h:Shp.ok w (.sl [.s]) v):∃ls:List (List UInt8),∃A c,v=.slice A ls.length c∧Txs w (.slice A ls.length c) ls∧ls.length≤maxLen∧∀x∈ls,x.length≤maxLen:=by
 obtain ⟨ls,h1,h2,h3⟩:=txs_of h
 obtain ⟨h4,A,c,e,_⟩:=id h1
 subst e
 exact ⟨ls,A,c,rfl,h4,h2,h3⟩
end Go.Proofs.YtkfnepnghnicoaaGreatDoor
