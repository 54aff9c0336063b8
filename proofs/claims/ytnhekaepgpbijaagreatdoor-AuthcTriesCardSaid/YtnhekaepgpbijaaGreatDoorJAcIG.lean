/- Several of my texts in one: AcW, AcX, AcC, AcI. -/
import Derived.Test.YtnhekaepgpbijaaGreatDoorJAcKG
import Derived.Test.YtnhekaepgpbijaaGreatDoorJAuApG
import Derived.Test.YtnhekaepgpbijaaGreatDoorJAcBG
import Derived.Test.YtnhekaepgpbijaaGreatDoorJCfLcG
set_option linter.unusedVariables false
set_option linter.unusedSimpArgs false
set_option maxHeartbeats 40000000
set_option maxRecDepth 100000
namespace Go.Proofs.YtnhekaepgpbijaaGreatDoor
open Go.RowKit Go.ChangeShapes Go.WideShapes Go.Sort
theorem Iu {p:List UInt8} {n:Nat} {l:List Fld} (h:fq p=.ok n l) (hp:p.length≤3000):∀x∈l,x.l.length≤1000∧∀y∈x.l,y.length≤1000000:=by
 obtain ⟨he,_⟩:=Gi h;unfold encS at he
 split at he
 ·rename_i hf
  obtain ⟨f1,f2⟩:=oN hf;have hfl:l.length=(fit (n:Int) l.length).1.data.toList.length:=f2.symm.trans (aD _);obtain ⟨e1,e2,e3,_⟩:=qH hfl he;have hpl:([UInt8.ofNat (n:Int).toNat]++dE l).length=p.length:=by rw [e3]
  rw [List.length_append,List.length_singleton] at hpl;intro x hx;have h0:=xc hx;obtain ⟨h1,h2,h3⟩:=Cf (e2 x hx);exact ⟨by omega,fun y hy=>by have:=h3 y hy;omega⟩
 ·cases he
section
variable {q : ClQ} {T T' : List Tm} {S S' : Nat → Prop} {s : bS} {z : TkP} {W W' : World}
theorem O3 {num:Nat} (h:gF num s=true):num=7∨num=53∨num=6∨num=51∨(num=52∧s.ph=3)∨(num=60∧s.ph=2):=by
 unfold gF at h
 split at h
 ·omega
 ·split at h
  ·omega
  ·split at h
   ·exact .inr (.inr (.inr (.inr (.inr ⟨by assumption,of_decide_eq_true h⟩))))
   ·split at h
    ·exact .inr (.inr (.inr (.inr (.inl ⟨by assumption,of_decide_eq_true h⟩))))
    ·split at h
     ·omega
     ·cases h
theorem JN (h:aI q T S s z W) {lo:Nat} {A:Option Addr} {c:Nat} {l:List Fld} (HF:dB lo W A l) (hlo:∀i,S i→i<lo) (hqb:q.b<lo) (hln:l.length≤20) (hll:∀x∈l,x.l.length≤1000∧∀y∈x.l,y.length≤1000000) (hT:T.length≤690000) {num:Nat} (hm:gF num s=true) (ht:s.ph=2∨s.ph=3→1≤s.tried) :
  Calls Tryz.prog 77 #[.pointer (some ⟨q.b,0,none⟩),.agg #[.int .i64 ((num:Nat):Int),.slice A l.length c]] W (qE q T S W 15000 (Ap q.us q.al q.ky q.sid s num l)):=by
 unfold Ap;rcases O3 hm with rfl | rfl | rfl | rfl | ⟨rfl,hp⟩ | ⟨rfl,hp⟩
 ·rw [if_pos rfl]
  exact PG h HF hlo hqb hln hll hT
 ·rw [if_neg (by decide),if_pos rfl]
  exact NR h HF hlo hqb hln hll hT
 ·rw [if_neg (by decide),if_neg (by decide),if_pos rfl]
  by_cases hs:(atF l 0).s=ib
  ·rw [if_neg (fun h9=>h9 hs)]
   exact Lc h HF hlo hqb hln hll hT hs
  ·rw [if_pos hs]
   exact KC h HF hlo hqb hln hll hT hs
 ·rw [if_neg (by decide),if_neg (by decide),if_neg (by decide),if_pos rfl]
  by_cases hs:dG∈(atF l 0).l
  ·rw [if_neg (fun h9=>h9 hs)]
   exact Hm h HF hlo hqb hln hll hT hs
  ·rw [if_pos hs]
   exact JP h HF hlo hqb hln hll hT hs
 ·rw [if_neg (by decide),if_neg (by decide),if_neg (by decide),if_neg (by decide),if_pos rfl]
  exact KY h HF hlo hqb hln hll hT (ht (.inr hp))
 ·rw [if_neg (by decide),if_neg (by decide),if_neg (by decide),if_neg (by decide),if_neg (by decide),if_pos rfl]
  by_cases hs:(atF l 0).s=s.alg
  ·by_cases hs2:(atF l 1).s=fI (bT q.ky (s.tried - 1))
   ·rw [if_neg (fun h9=>h9.elim (fun h8=>h8 hs) (fun h8=>h8 hs2))]
    exact JQ h HF hlo hqb hln hll hT (ht (.inl hp)) hs hs2
   ·rw [if_pos (.inr hs2)]
    exact JH h HF hlo hqb hln hll hT (ht (.inl hp)) hs hs2
  ·rw [if_pos (.inl hs)]
   exact GN h HF hlo hqb hln hll hT (ht (.inl hp)) hs
def vQ (q:ClQ) (T:List Tm) (S:Nat→Prop) (W:World) (o:bS × lh) (e:Ending) (w':World):Prop :=
 ∃T' S' z' ov ev er,e=.returned (.tuple #[ov,ev,er])∧SK w' o.2.out ov∧EvW w' q.n q.us S' o.2.ev ev∧ErV w' o.2.err er∧T <+: T'∧T'.length≤T.length+15000∧aI q T' S' o.1 z' w'∧Grown (SB q.b q.b S) W (SB q.b q.b S') w'
theorem EvW.below {w w':World} {n:Int} {us:List UInt8} {S:Nat→Prop} {o:Option (Int × Int × List UInt8)} {v:Value} (h:EvW w n us S o v) (hb:Below w.heap.size w w'):EvW w' n us S o v:=by
 cases o with
 | none=>exact h
 | some x =>
  obtain ⟨kd,who,alg⟩:=x;obtain ⟨b,e,hB,hn⟩:=h;exact ⟨b,e,hB.below hb hB.lt,hn⟩
theorem vU (h:aI q T S s z W) (pl:ByteArray) (h3:s.ph=0∨s.ph=5):Calls Tryz.prog 30 #[.pointer (some ⟨q.b,0,none⟩),.string pl] W (vQ q T S W (tkC q.us q.al q.ky q.sid s pl.data.toList)):=by
 generalize hq:tkC q.us q.al q.ky q.sid s pl.data.toList=o;have ho:o=({ s with ph:=5 },⟨[],none,some ([dm],7)⟩):=by rw [←hq];unfold tkC;rw [if_pos h3];rfl
 have c25:=h.c25;have HA:=hide (j3 h (er:=.iface 43 (.int .i64 7)) (ps:=[]) (k:=7) rfl);have Ho:=hide ho;clear h hq ho;rcases h3 with h3 | h3
 ·rw [h3] at c25
  go_enter Tryz.func30,Tryz.ntmps30;go_wp2_with fail;refine HA.out.mono ?_;rintro e w3 ⟨b,rfl,hi3,hM3,hG3⟩;have Hf:=hide (And.intro hi3 (And.intro hM3 hG3));clear hi3 hM3 hG3;go_wp2_with fail;go_ret3;have ho:=Ho.out;subst ho;exact ⟨T,S,z,.slice none 0 0,.slice none 0 0,aH b,rfl,⟨fun _=>rfl,fun h9=>absurd rfl h9⟩,rfl,Hf.out.1,List.prefix_refl _,by omega,Hf.out.2.1,Hf.out.2.2⟩
 ·rw [h3] at c25
  go_enter Tryz.func30,Tryz.ntmps30;go_wp2_with fail;refine HA.out.mono ?_;rintro e w3 ⟨b,rfl,hi3,hM3,hG3⟩;have Hf:=hide (And.intro hi3 (And.intro hM3 hG3));clear hi3 hM3 hG3;go_wp2_with fail;go_ret3;have ho:=Ho.out;subst ho;exact ⟨T,S,z,.slice none 0 0,.slice none 0 0,aH b,rfl,⟨fun _=>rfl,fun h9=>absurd rfl h9⟩,rfl,Hf.out.1,List.prefix_refl _,by omega,Hf.out.2.1,Hf.out.2.2⟩
theorem Iy (h:aI q T S s z W) (pl:ByteArray) (hpl:pl.size≤1000000) (h0:s.ph≠0) (h5:s.ph≠5) {ps:List (List UInt8)} {k:Nat} (hk:jU (fq pl.data.toList)=some (ps,k)):Calls Tryz.prog 30 #[.pointer (some ⟨q.b,0,none⟩),.string pl] W (vQ q T S W (tkC q.us q.al q.ky q.sid s pl.data.toList)):=by
 generalize hq:tkC q.us q.al q.ky q.sid s pl.data.toList=o
 have ho:o=({ s with ph:=5 },⟨[],none,some (dm :: ps,(k:Int))⟩):=by
  rw [←hq];unfold tkC;rw [if_neg (fun h9=>h9.elim h0 h5)]
  cases hd:fq pl.data.toList with
  | ok num l=>rw [hd] at hk;cases hk
  | all e=>rw [hd] at hk;simp only;rw [hk];rfl
  | bad num R=>rw [hd] at hk;simp only;rw [hk];rfl
 have c25:=h.c25;have e0:(((s.ph:Nat):Int) == 0)=false:=by rw [beq_eq_false_iff_ne];omega
 have e5:(((s.ph:Nat):Int) == 5)=false:=by rw [beq_eq_false_iff_ne];omega
 generalize ((s.ph:Nat):Int)=p at c25 e0 e5;have HD:=hide (lK pl hpl h.pay.max.maxL);have HM:=hide h;have Ho:=hide ho;have Hk:=hide hk;clear h h0 h5 hq ho hk;go_enter Tryz.func30,Tryz.ntmps30;go_wp2_with fail;refine HD.out.mono ?_;rintro e w1 ⟨hb1,⟨num,l,A,c,hd,rfl,hF⟩ | ⟨b,ps',k',hk',rfl,hi1⟩⟩
 ·have hk:=Hk.out
  rw [hd] at hk;cases hk
 ·rw [Hk.out] at hk'
  cases hk'
  obtain ⟨w2,hw2⟩:∃W2,W2=w1.alloc (.cells #[.int .i64 0,.slice none 0 0] 55):=⟨_,rfl⟩
  have hb2:Below w1.heap.size w1 w2:=by rw [hw2];exact az _
  have hb12:=hb1.trans (hb2.mono hb1.size);have HA:=hide (j3 (HM.out.below hb12) (er:=.iface 168 (.pointer (some ⟨b,0,none⟩))) (ps:=ps) (k:=(k:Int)) (hi1.below hb2));have Hb:=hide hb12;clear hb1 hb2 hb12 hi1 HD;unfold aH;go_upto_region 6 with fail;rw [←hw2];clear hw2;go_wp2_with fail;refine HA.out.mono ?_;rintro e w4 ⟨b9,rfl,hi4,hM4,hG4⟩;have Hf:=hide (And.intro hi4 (And.intro hM4 hG4));clear hi4 hM4 hG4;go_wp2_with fail;go_ret3;have ho:=Ho.out;subst ho;exact ⟨T,S,z,.slice none 0 0,.slice none 0 0,aH b9,rfl,⟨fun _=>rfl,fun h9=>absurd rfl h9⟩,rfl,Hf.out.1,List.prefix_refl _,by omega,Hf.out.2.1,((Grown.of_below Hb.out).sb _ _).trans Hf.out.2.2⟩
end
section
variable {q : ClQ} {T T' : List Tm} {S S' : Nat → Prop} {s : bS} {z : TkP} {W W' : World}
theorem J7 (h:aI q T S s z W) (pl:ByteArray) (hpl:pl.size≤1000000) (h0:s.ph≠0) (h5:s.ph≠5) {num:Nat} {l:List Fld} (hd:fq pl.data.toList=.ok num l) (hm:gF num s=false):Calls Tryz.prog 30 #[.pointer (some ⟨q.b,0,none⟩),.string pl] W (vQ q T S W (tkC q.us q.al q.ky q.sid s pl.data.toList)):=by
 generalize hq:tkC q.us q.al q.ky q.sid s pl.data.toList=o
 have ho:o=({ s with ph:=5 },⟨[],none,some ([dm],7)⟩):=by
  rw [←hq];unfold tkC;rw [if_neg (fun h9=>h9.elim h0 h5),hd];simp only;rw [hm,if_neg (by decide)];rfl
 have c25:=h.c25;have e0:(((s.ph:Nat):Int) == 0)=false:=by rw [beq_eq_false_iff_ne];omega
 have e5:(((s.ph:Nat):Int) == 5)=false:=by rw [beq_eq_false_iff_ne];omega
 generalize ((s.ph:Nat):Int)=p at c25 e0 e5;have HD:=hide (lK pl hpl h.pay.max.maxL);have HM:=hide h;have Ho:=hide ho;have Hd:=hide hd;have HMy:=hide (fun (V:World) (hM:aI q T S s z V)=>(by have h9:=BL hM num;rw [hm] at h9;exact h9:Calls Tryz.prog 76 #[.pointer (some ⟨q.b,0,none⟩),.int .i64 ((num:Nat):Int)] V (fun e w'=>e=.returned (.bool false)∧Below V.heap.size V w')));clear h h0 h5 hq ho hd hm;go_enter Tryz.func30,Tryz.ntmps30;go_wp2_with fail;refine HD.out.mono ?_;rintro e w1 ⟨hb1,⟨num',l',A,c,hd,rfl,hF⟩ | ⟨b,ps',k',hk',rfl,hi1⟩⟩
 ·rw [Hd.out] at hd
  cases hd
  obtain ⟨w2,hw2⟩:∃W2,W2=w1.alloc (.cells #[.int .i64 ((num:Nat):Int),.slice A l.length c] 55):=⟨_,rfl⟩
  have hb2:Below w1.heap.size w1 w2:=by rw [hw2];exact az _
  have hX2:Blk w2 w1.heap.size 55 #[.int .i64 ((num:Nat):Int),.slice A l.length c]:=by rw [hw2];exact Blk.new w1 _ _
  have hb12:=hb1.trans (hb2.mono hb1.size);have m0:=hX2.cell 0;have m1:=hX2.cell 1;simp only [List.getElem?_toArray,List.getElem?_cons_zero,List.getElem?_cons_succ] at m0 m1;have HM2:=hide (HM.out.below hb12);have Hb:=hide hb12;have HK:=hide (HMy.out w2 HM2.out);clear hb1 hb2 hb12 HD HMy hF hX2;generalize ((num:Nat):Int)=m at hw2 m0 HK ⊢;go_upto_region 6 with fail;rw [←hw2];clear hw2;go_wp2_with fail;refine HK.out.mono ?_;rintro e w3 ⟨rfl,hb3⟩;have HA:=hide (j3 (HM2.out.below hb3) (er:=.iface 43 (.int .i64 7)) (ps:=[]) (k:=7) rfl);have Hb3:=hide (Hb.out.trans (hb3.mono Hb.out.size));clear hb3;go_wp2_with fail;refine HA.out.mono ?_;rintro e w4 ⟨b9,rfl,hi4,hM4,hG4⟩;have Hf:=hide (And.intro hi4 (And.intro hM4 hG4));clear hi4 hM4 hG4;go_wp2_with fail;go_ret3;have ho:=Ho.out;subst ho;exact ⟨T,S,z,.slice none 0 0,.slice none 0 0,aH b9,rfl,⟨fun _=>rfl,fun h9=>absurd rfl h9⟩,rfl,Hf.out.1,List.prefix_refl _,by omega,Hf.out.2.1,((Grown.of_below Hb3.out).sb _ _).trans Hf.out.2.2⟩
 ·have hd:=Hd.out
  rw [hd] at hk';cases hk'
theorem Dl (h:aI q T S s z W) (pl:ByteArray) (hpl:pl.size≤3000) (hT:T.length≤690000) (h0:s.ph≠0) (h5:s.ph≠5) (ht:s.ph=2∨s.ph=3→1≤s.tried) {num:Nat} {l:List Fld} (hd:fq pl.data.toList=.ok num l) (hm:gF num s=true):Calls Tryz.prog 30 #[.pointer (some ⟨q.b,0,none⟩),.string pl] W (vQ q T S W (tkC q.us q.al q.ky q.sid s pl.data.toList)):=by
 generalize hq:tkC q.us q.al q.ky q.sid s pl.data.toList=o
 have ho:o=Ci (Ap q.us q.al q.ky q.sid s num l):=by
  rw [←hq];unfold tkC;rw [if_neg (fun h9=>h9.elim h0 h5),hd];simp only;rw [hm,if_pos rfl]
 have hp3:pl.data.toList.length≤3000:=by rw [aD];exact hpl
 have hln:=(MK hd hp3).2;have hll:=Iu hd hp3;have c25:=h.c25;have e0:(((s.ph:Nat):Int) == 0)=false:=by rw [beq_eq_false_iff_ne];omega
 have e5:(((s.ph:Nat):Int) == 5)=false:=by rw [beq_eq_false_iff_ne];omega
 generalize ((s.ph:Nat):Int)=p at c25 e0 e5;have HD:=hide (lK pl (by omega) h.pay.max.maxL);have HM:=hide h;have Ho:=hide ho;have Hd:=hide hd;have HMy:=hide (fun (V:World) (hM:aI q T S s z V)=>(by have h9:=BL hM num;rw [hm] at h9;exact h9:Calls Tryz.prog 76 #[.pointer (some ⟨q.b,0,none⟩),.int .i64 ((num:Nat):Int)] V (fun e w'=>e=.returned (.bool true)∧Below V.heap.size V w')));have HS:=hide (fun (V:World) (hM:aI q T S s z V) {A:Option Addr} {c:Nat} (HF:dB W.heap.size V A l)=>JN hM (num:=num) (c:=c) HF (fun i hi=>h.pay.ar.sL i hi) h.blt hln hll hT hm ht);generalize Ap q.us q.al q.ky q.sid s num l=r at ho HS Ho;clear h h0 h5 hq ho hd hm ht hpl hp3 hln hll;go_enter Tryz.func30,Tryz.ntmps30;go_wp2_with fail;refine HD.out.mono ?_;rintro e w1 ⟨hb1,⟨num',l',A,c,hd,rfl,hF⟩ | ⟨b,ps',k',hk',rfl,hi1⟩⟩
 ·rw [Hd.out] at hd
  cases hd
  obtain ⟨w2,hw2⟩:∃W2,W2=w1.alloc (.cells #[.int .i64 ((num:Nat):Int),.slice A l.length c] 55):=⟨_,rfl⟩
  have hb2:Below w1.heap.size w1 w2:=by rw [hw2];exact az _
  have hX2:Blk w2 w1.heap.size 55 #[.int .i64 ((num:Nat):Int),.slice A l.length c]:=by rw [hw2];exact Blk.new w1 _ _
  have hb12:=hb1.trans (hb2.mono hb1.size);have m0:=hX2.cell 0;have m1:=hX2.cell 1;simp only [List.getElem?_toArray,List.getElem?_cons_zero,List.getElem?_cons_succ] at m0 m1;have HM2:=hide (HM.out.below hb12);have HF2:=hide (hF.below hb2);have Hb:=hide hb12;have HX:=hide (And.intro m0 m1);have HK:=hide (HMy.out w2 HM2.out);clear hb1 hb2 hb12 HD HMy hF hX2;have HSS:=hide (fun (V:World) (hb:Below w2.heap.size w2 V)=>HS.out V (HM2.out.below hb) (c:=c) (HF2.out.below hb));clear HS;generalize ((num:Nat):Int)=m at hw2 m0 HK HX HSS ⊢;go_upto_region 6 with fail;rw [←hw2];clear hw2;go_wp2_with fail;refine HK.out.mono ?_;rintro e w2' ⟨rfl,hb2'⟩;have m0:=dh hb2' HX.out.1;have m1:=dh hb2' HX.out.2;have HS2:=hide (HSS.out w2' hb2');have Hb2':=hide (Hb.out.trans (hb2'.mono Hb.out.size));unfold qE at HS2;clear hb2' HSS HK;go_wp2_with fail;refine HS2.out.mono ?_;rintro e w3 ⟨T3,S3,z3,ev,er,rfl,hev,her,hp3,hl3,hM3,hG3⟩;have HG3:=hide (((Grown.of_below Hb2'.out).sb q.b q.b).trans hG3);have Hp:=hide (And.intro hp3 hl3);have HM3:=hide hM3;have Hev:=hide hev;clear hp3 hl3 hM3 hG3 hev HS2;obtain ⟨s1,out,evv,err⟩:=r
  cases err with
  | some x =>
   obtain ⟨ps,k⟩:=x;have HA:=hide (j3 HM3.out her);obtain ⟨te,ue,rfl⟩:=aT.shape her;clear her;simp only;go_wp2_with fail;refine HA.out.mono ?_;rintro e w4 ⟨b9,rfl,hi4,hM4,hG4⟩;have Hf:=hide (And.intro hi4 (And.intro hM4 hG4));clear hi4 hM4 hG4;go_wp2_with fail;go_ret3;have ho:=Ho.out;subst ho;exact ⟨T3,S3,z3,.slice none 0 0,.slice none 0 0,aH b9,rfl,⟨fun _=>rfl,fun h9=>absurd rfl h9⟩,rfl,Hf.out.1,Hp.out.1,Hp.out.2,Hf.out.2.1,HG3.out.trans Hf.out.2.2⟩
  | none =>
   have her2:er=.nilIface:=her;subst her2;clear her;simp only
   cases out with
   | nil =>
    have eo:((bs ([]:List UInt8)).toList == ([]:List UInt8))=true:=by rw [aN];rfl
    go_wp2_with fail;go_ret3;have ho:=Ho.out;subst ho;exact ⟨T3,S3,z3,.slice none 0 0,ev,.nilIface,rfl,⟨fun _=>rfl,fun h9=>absurd rfl h9⟩,Hev.out,rfl,Hp.out.1,Hp.out.2,HM3.out,HG3.out⟩
   | cons a r =>
    have eo:((bs (a :: r)).toList == ([]:List UInt8))=false:=by rw [aN];rfl
    generalize hz:bs (a :: r)=zz at eo ⊢;have Hz:=hide hz;clear hz;go_wp2_with fail;go_ret3;have ho:=Ho.out;have hz:=Hz.out;subst ho hz;exact ⟨T3,S3,z3,_,ev,.nilIface,rfl,⟨(fun h9=>by cases h9),fun _=>⟨_,rfl,Blk.new _ _ _⟩⟩,Hev.out.below (az _),rfl,Hp.out.1,Hp.out.2,HM3.out.below (az _),HG3.out.trans ((Grown.of_below (az _)).sb _ _)⟩
 ·have hd:=Hd.out
  rw [hd] at hk';cases hk'
theorem mi (h:aI q T S s z W) (pl:ByteArray) (hpl:pl.size≤3000) (hT:T.length≤690000) (ht:s.ph=2∨s.ph=3→1≤s.tried):Calls Tryz.prog 30 #[.pointer (some ⟨q.b,0,none⟩),.string pl] W (vQ q T S W (tkC q.us q.al q.ky q.sid s pl.data.toList)):=by
 by_cases h0:s.ph=0
 ·exact vU h pl (.inl h0)
 ·by_cases h5:s.ph=5
  ·exact vU h pl (.inr h5)
  ·cases hk:jU (fq pl.data.toList) with
   | some x=>exact Iy h pl (by omega) h0 h5 (ps:=x.1) (k:=x.2) hk
   | none =>
    obtain ⟨num,l,hd⟩:=Bw hk
    cases hm:gF num s with
    | false=>exact J7 h pl (by omega) h0 h5 hd hm
    | true=>exact Dl h pl hpl hT h0 h5 ht hd hm
end
section
variable {q : ClQ} {T T' : List Tm} {S S' : Nat → Prop} {s : bS} {z : TkP} {W W' : World}
theorem sG (h:aI q T S s z W):Calls Tryz.prog 26 #[.pointer (some ⟨q.b,0,none⟩)] W (M4 q T S z W (Ex s)):=by
 by_cases hp:s.ph=0
 ·exact DJ h hp
 ·exact Jd h hp
end
theorem R9:Et false [112,108,97,105,110] [] [97,110,110] fJ 0 0 1 2048 3072 8192 [[115,115,104,45,101,100,50,53,53,49,57]] [] [8]=none:=by kernel_rfl
theorem Ri:iH [112,108,97,105,110] [] [97,110,110] fJ [[115,115,104,45,101,100,50,53,53,49,57]] [] [8]=true:=by kernel_rfl
section
variable {w : World}
theorem Ph (hM:fC w):Calls Tryz.prog 37 #[.bool false,.int .i64 1] w (fun e w'=>∃(c:CfP) (cv:Array Value),e=.returned (.agg cv)∧CvP c cv∧(∀V:World,w'.heap.size≤V.heap.size→(∀p:Addr,w.heap.size≤p.block→p.block<w'.heap.size→V.cell? p=w'.cell? p)→c.M V)∧c.err=none∧c.sv=false∧c.fw=true∧Below w.heap.size w w'):=by
 refine (J9 hM 1).mono ?_;rintro e w' ⟨B0,m0,d0,B1,m1,d1,B2,m2,d2,B3,m3,d3,B4,m4,d4,B5,m5,d5,B6,m6,d6,B7,m7,d7,B8,d8,B9,d9,rfl,_,hC,hb⟩;obtain ⟨_,rfl,h⟩:=Bi (⟨false,true,false,[112,108,97,105,110],[],[97,110,110],B0,B1,B2,B3,B4,B5,B6,B7,B8,none,B9,m0,m1,m2,m3,m4,m5,m6,m7,d0,d1,d2,d3,d4,d5,d6,d7,d8,0,d9,[[115,115,104,45,101,100,50,53,53,49,57]],0,0,1,2048,3072,8192,[],[8],fJ⟩:CfP);exact ⟨_,_,rfl,h,hC,R9,rfl,Ri,hb⟩
theorem Cx (hT:Tab w) (hMx:jq w) (hMe:fC w) (hWo:gJ w):Calls Tryz.prog 7 #[] w (fun e w'=>e=.returned (.bool true)∧Below w.heap.size w w'):=by
 have HN:=hide (yo w);have HV:=hide (fun (V:World) (hb:Below w.heap.size w V)=>And.intro (hMe.below hb) (hWo.below hb));have HT:=hide (And.intro hT hMx);clear hT hMx hMe hWo;go_enter Tryz.func7,Tryz.ntmps7;go_wp2_with fail;refine HN.out.mono ?_;rintro e w1 ⟨g,S,rfl,hA,hb1⟩;have HP:=hide (Pay.new HT.out.1 HT.out.2 (Below.refl _ _) hA hb1);have HPl:=hide (Ph (HV.out _ hb1).1);clear hA hb1 HN HT;go_upto_region 2 with fail;refine wp_region_lit ?_;refine aM (v:=.pointer (some ⟨g,0,none⟩)) (w':=w1) (by rfl) (by first | rfl | go_simp) ?_
 try simp only [Act.put,List.setIfInBounds_toArray,List.set_cons_zero,List.set_cons_succ]
 refine bM (f:=37) (by rfl) (by first | rfl | go_simp) HPl.out ?_;rintro e w2 ⟨c,cv,rfl,hcv,hC2,hce,hcs,hcf,hb2⟩;refine ⟨_,rfl,?_⟩
 try simp only [Act.put,List.setIfInBounds_toArray,List.set_cons_zero,List.set_cons_succ]
 refine aM (v:=.pointer (some ⟨g,0,none⟩)) (w':=w2) (by rfl) (by first | rfl | go_simp) ?_
 try simp only [Act.put,List.setIfInBounds_toArray,List.set_cons_zero,List.set_cons_succ]
 have HP2:=hide (HP.out.below hb2);have HD:=hide (x9 HP2.out (s:=⟨#[115]⟩) (by decide) (by simp) (Below.refl _ _));have HC3:=hide (fun (V:World) (S9:Nat→Prop) (hG:Grown S w2 S9 V)=>hC2 V hG.size (fun p h1 h2=>World.cell?_of_block (hG.block p.block h2 (fun h9=>by have h8:=HP.out.ar.sL _ h9;omega))));clear HP HPl hC2 hb2;refine bM (f:=38) (by rfl) (by first | rfl | go_simp) HD.out ?_;rintro e w3 ⟨T3,n3,S3,rfl,hi3,hp3,hl3,hP3,hG3⟩;refine ⟨_,rfl,?_⟩
 try simp only [Act.put,List.setIfInBounds_toArray,List.set_cons_zero,List.set_cons_succ]
 have HA:=hide (FI c hcv (HV.out _ hP3.bel).1 (HV.out _ hP3.bel).2 (HC3.out _ _ hG3) hcf hP3 hi3 hce hcs (qF (by decide)) (by show (1:Nat)≠0;decide) (fun t h9=>(by rw [qF (by decide)] at h9;cases h9;decide)));refine bM (f:=36) (by rfl) (by first | rfl | go_simp) HA.out ?_;rintro e w4 ⟨b,P,A8,c8,A10,c10,rfl,hM4,hb4⟩;refine ⟨_,rfl,?_⟩
 try simp only [Act.put,List.setIfInBounds_toArray,List.set_cons_zero,List.set_cons_succ]
 have HS:=hide (sG hM4);have Hb4:=hide (hP3.bel.trans (hb4.mono hP3.bel.size));clear hM4 hb4 HA HD HC3 HP2 hi3 hp3 hl3 hP3 hG3 HV;unfold M4 at HS;go_wp2_with fail;refine HS.out.mono ?_;rintro e w5 ⟨ov,er,rfl,hov,her,hM5,hG5⟩;obtain ⟨b5,rfl,hB5⟩:=hov.2 (by decide);have her':er=.nilIface:=her;subst her';have x0:=hB5.cell 0;rw [show bs (Ex ⟨0,false,[],0,[]⟩).2.out=(⟨#[5,0,0,0,12,115,115,104,45,117,115,101,114,97,117,116,104]⟩:ByteArray) from by kernel_rfl] at x0;simp only [List.getElem?_toArray,List.getElem?_cons_zero] at x0;have HI:=hide (yn hM5);have HB5:=hide hM5.pay.bel;clear hov hB5 hM5 hG5 her HS;go_wp2_with fail;refine HI.out.mono ?_;rintro e w6 ⟨rfl,hb6⟩;go_wp2_with fail;go_ret;exact ⟨rfl,HB5.out.trans (hb6.mono HB5.out.size)⟩
end
end Go.Proofs.YtnhekaepgpbijaaGreatDoor
