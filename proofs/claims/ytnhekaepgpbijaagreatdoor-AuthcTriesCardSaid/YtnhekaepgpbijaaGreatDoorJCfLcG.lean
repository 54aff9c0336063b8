/- Several of my texts in one: CfCk, CfJ, CfX0, CfL, CfN, CfP, CfQ, CfR, ErO, CfLc. -/
import Derived.Test.YtnhekaepgpbijaaGreatDoorJCfI
import Derived.Test.YtnhekaepgpbijaaGreatDoorJCfKG
import Derived.Test.YtnhekaepgpbijaaGreatDoorJKx6G
import Derived.Test.YtnhekaepgpbijaaGreatDoorJAsG
import Derived.Laws.Bits128
set_option linter.unusedVariables false
set_option linter.unusedSimpArgs false
set_option maxHeartbeats 40000000
set_option maxRecDepth 100000
namespace Go.Proofs.YtnhekaepgpbijaaGreatDoor
open Go.RowKit Go.ChangeShapes Go.WideShapes Go.Sort
theorem Bq {o:fP} (h:inC o=none):o=none:=by
 cases o with
 | none=>rfl
 | some x=>cases h
def Et (sv:Bool) (sw cm us:List UInt8) (ls:List (List (List UInt8))) (own lim peer q0 q1 q2:Int) (al:List (List UInt8)) (gr:List (List UInt8 × Int)) (ky:List Int):fP :=
 if sv=true then inC (dD [unl (bR sw cm != []) [118,101,114,115,105,111,110] 1,prR (prW ls),unl (aC own) [111,119,110] 5,bN (aV gr al lim)]) else inC (dD [unl (bR sw cm != []) [118,101,114,115,105,111,110] 1,prR (prW ls),unl (aC peer) [112,101,101,114] 5,unl (bO us) [117,115,101,114] 3,fG ky,bN (aV [] al 1),unl (aQ q0 q1 q2) [119,105,115,104] 5])
section
variable {w : World}
theorem Dt {sv ex ge:Bool} {sw cm us:List UInt8} {A0 A1 A2 A3 A4 A5 A6 A7 A8 A9 A10:Option Addr} {n0 n1 n2 n3 n4 n5 n6 n7 c0 c1 c2 c3 c4 c5 c6 c7 c8 c9 c10:Nat} {al:List (List UInt8)} {own lim peer q0 q1 q2:Int} {gr:List (List UInt8 × Int)} {ky:List Int} {ls:List (List (List UInt8))} (hM:fC w) (hW:gJ w) (hC:CfM w sw cm us [.slice A0 n0 c0,.slice A1 n1 c1,.slice A2 n2 c2,.slice A3 n3 c3,.slice A4 n4 c4,.slice A5 n5 c5,.slice A6 n6 c6,.slice A7 n7 c7] ls A8 c8 al A9 gr A10 ky):Calls Tryz.prog 81 #[.agg #[.bool sv,.string (bs sw),.string (bs cm),.slice A0 n0 c0,.slice A1 n1 c1,.slice A2 n2 c2,.slice A3 n3 c3,.slice A4 n4 c4,.slice A5 n5 c5,.slice A6 n6 c6,.slice A7 n7 c7,.slice A8 al.length c8,.int .i64 own,.slice A9 gr.length c9,.int .i64 lim,.int .i64 peer,.string (bs us),.slice A10 ky.length c10,.bool ex,.bool ge,.int .u32 q0,.int .u32 q1,.int .u32 q2]] w (eX (Et sv sw cm us ls own lim peer q0 q1 q2 al gr ky) w):=by
 cases sv with
 | true=>exact Qj hM hW hC
 | false=>exact OL hM hW hC
end
def IQ (w:World) (vs:List Value) (ls:List (List (List UInt8))):Prop:=vs.length=8∧ls.length=8∧∀(i:Nat) v l,vs[i]?=some v→ls[i]?=some l→Txc w v l∧l.length≤maxLen
theorem IQ.below {w w':World} {vs:List Value} {ls:List (List (List UInt8))} (h:IQ w vs ls) (hb:Below w.heap.size w w'):IQ w' vs ls :=
 ⟨h.1,h.2.1,fun i v l h1 h2=>⟨(h.2.2 i v l h1 h2).1.below hb,(h.2.2 i v l h1 h2).2⟩⟩
theorem IQ.allS {w:World} {vs:List Value} {ls:List (List (List UInt8))} (h:IQ w vs ls):iZ 0 w vs (ls.map bss):=by
 refine ⟨by rw [List.length_map,h.1,h.2.1],fun i v s h1 h2=>?_⟩;rw [List.getElem?_map,Option.map_eq_some_iff] at h2;obtain ⟨l,hl,rfl⟩:=h2;have:=h.2.2 i v l h1 hl;have hm:maxLen≤9223372036854775807:=by unfold maxLen;omega
 exact ⟨this.1.1,by rw [bss,List.length_map];omega⟩
structure CfW (w:World) (sw cm us:List UInt8) (vs:List Value) (ls:List (List (List UInt8))) (A8:Option Addr) (c8:Nat) (al:List (List UInt8)) (A9:Option Addr) (gr:List (List UInt8 × Int)) (A10:Option Addr) (ky:List Int):Prop where
 hl8:IQ w vs ls
 hal:Txs w (.slice A8 al.length c8) al
 alc:al.length≤c8
 all:al.length≤maxLen
 hgr:GrC w A9 gr
 grl:gr.length≤maxLen
 hky:InC w A10 ky
 kyl:ky.length≤maxLen
theorem CfW.below {w w':World} {sw cm us:List UInt8} {vs:List Value} {ls:List (List (List UInt8))} {A8:Option Addr} {c8:Nat} {al:List (List UInt8)} {A9:Option Addr} {gr:List (List UInt8 × Int)} {A10:Option Addr} {ky:List Int}
  (h:CfW w sw cm us vs ls A8 c8 al A9 gr A10 ky) (hb:Below w.heap.size w w'):CfW w' sw cm us vs ls A8 c8 al A9 gr A10 ky :=
 ⟨h.hl8.below hb,h.hal.below hb,h.alc,h.all,h.hgr.below hb,h.grl,h.hky.below hb,h.kyl⟩
def iH (sw cm us:List UInt8) (ls:List (List (List UInt8))) (al:List (List UInt8)) (gr:List (List UInt8 × Int)) (ky:List Int):Bool :=
 qY (ls.map bss) && decide (al.length≤20) && decide (gr.length≤20) && decide (ky.length≤20) && decide (sw.length≤300) && decide (cm.length≤300) && decide (us.length≤300) && al.all (fun x=>decide (x.length≤300)) && gr.all (fun x=>decide (x.1.length≤300))
theorem G5 {ls:List (List (List UInt8))} (h:qY (ls.map bss)=true):∀l∈ls,l.length≤20∧∀y∈l,y.length≤100:=by
 intro l hl;unfold qY at h;rw [List.all_eq_true] at h;have h2:=h (bss l) (List.mem_map.2 ⟨l,hl,rfl⟩);unfold yR at h2;simp only [Bool.and_eq_true,decide_eq_true_eq,List.all_eq_true,bss,List.length_map] at h2;exact ⟨h2.1,fun y hy=>h2.2 (bs y) (List.mem_map.2 ⟨y,hy,rfl⟩)⟩
theorem CfW.few {w:World} {sw cm us:List UInt8} {vs:List Value} {ls:List (List (List UInt8))} {A8:Option Addr} {c8:Nat} {al:List (List UInt8)} {A9:Option Addr} {gr:List (List UInt8 × Int)} {A10:Option Addr} {ky:List Int}
  (h:CfW w sw cm us vs ls A8 c8 al A9 gr A10 ky) (hf:iH sw cm us ls al gr ky=true):CfM w sw cm us vs ls A8 c8 al A9 gr A10 ky:=by
 unfold iH at hf;simp only [Bool.and_eq_true,decide_eq_true_eq,List.all_eq_true] at hf;obtain ⟨⟨⟨⟨⟨⟨⟨⟨h1,h2⟩,h3⟩,h4⟩,h5⟩,h6⟩,h7⟩,h8⟩,h9⟩:=hf;have hl:=G5 h1;refine ⟨by omega,by omega,by omega,⟨h.hl8.1,h.hl8.2.1,fun i v l e1 e2=>⟨(h.hl8.2.2 i v l e1 e2).1,?_,fun y hy=>?_⟩⟩,h.hal,h.alc,by omega,fun y hy=>Nat.le_trans (h8 y hy) (by decide),h.hgr,by omega,fun g hg=>Nat.le_trans (h9 g hg) (by decide),h.hky,by omega⟩
 ·have:=(hl l (List.mem_of_getElem? e2)).1
  omega
 ·have:=(hl l (List.mem_of_getElem? e2)).2 y hy
  omega
def Ac:List Shp:=[.b,.s,.s,.sl [.s],.sl [.s],.sl [.s],.sl [.s],.sl [.s],.sl [.s],.sl [.s],.sl [.s],.sl [.s],.i .i64,.sl [.s,.i .i64],.i .i64,.i .i64,.s,.sl [.i .i64],.b,.b,.i .u32,.i .u32,.i .u32]
theorem aP {w:World} {a:Shp} {l:List Shp} {us:List Value} (h:Shp.oks w (a :: l) us):∃u us',us=u :: us'∧Shp.ok w a u∧Shp.oks w l us':=by
 match us,h with
 | [],h=>simp [Shp.oks] at h
 | u :: us',h=>exact ⟨u,us',rfl,by simpa [Shp.oks] using h⟩
theorem OY {w:World} {v:Value} (h:Shp.ok w (.sl [.i .i64]) v):∃(ks:List Int) (A:Option Addr) (c:Nat),v=.slice A ks.length c∧InC w A ks∧ks.length≤maxLen:=by
 simp only [Shp.ok] at h;obtain ⟨A,n,c,rfl,hnc,hc,hh⟩:=h
 have hex:∀j,∃k:Int,j<n→∃ad,A=some ad∧w.cell? (ad.add j)=some (.int .i64 k):=by
  intro j
  by_cases hj:j<n
  ·obtain ⟨ad,us,e,h1,h2⟩:=hh j hj
   obtain ⟨u,us2,rfl,h3,h4⟩:=aP h2;simp only [Shp.ok] at h3;obtain ⟨k,rfl,_⟩:=h3;refine ⟨k,fun _=>⟨ad,e,?_⟩⟩;have:=h1 0 _ rfl;simpa using this
  ·exact ⟨0,fun h=>absurd h hj⟩
 obtain ⟨f,hf⟩:=Classical.axiomOfChoice hex;refine ⟨(List.range n).map f,A,c,by simp,fun k hk=>?_,by simp;omega⟩;have hk2:k<n:=by simpa using hk
 obtain ⟨ad,e,h1⟩:=hf k hk2;refine ⟨ad,e,?_,by simpa using h1⟩;have:=World.block_lt_of_cell? w _ h1;rwa [ax] at this
theorem IX {w:World} {v:Value} (h:Shp.ok w (.sl [.s,.i .i64]) v):∃(gs:List (List UInt8 × Int)) (A:Option Addr) (c:Nat),v=.slice A gs.length c∧GrC w A gs∧gs.length≤maxLen:=by
 simp only [Shp.ok] at h;obtain ⟨A,n,c,rfl,hnc,hc,hh⟩:=h
 have hex:∀j,∃g:List UInt8 × Int,j<n→∃ad,A=some ad∧w.cell? (ad.add (j*2))=some (.string (bs g.1))∧w.cell? (ad.add (j*2+1))=some (.int .i64 g.2):=by
  intro j
  by_cases hj:j<n
  ·obtain ⟨ad,us,e,h1,h2⟩:=hh j hj
   obtain ⟨u,us2,rfl,h3,h4⟩:=aP h2;obtain ⟨u2,us3,rfl,h5,h6⟩:=aP h4;simp only [Shp.ok] at h3 h5;obtain ⟨s,rfl,_⟩:=h3;obtain ⟨k,rfl,_⟩:=h5;refine ⟨(s.data.toList,k),fun _=>⟨ad,e,?_,?_⟩⟩
   ·have:=h1 0 _ rfl
    have t:w.cell? (ad.add (j*2))=some (.string s):=by simpa using this
    exact t
   ·have:=h1 1 _ rfl
    simpa using this
  ·exact ⟨([],0),fun h=>absurd h hj⟩
 obtain ⟨f,hf⟩:=Classical.axiomOfChoice hex;refine ⟨(List.range n).map f,A,c,by simp,fun k hk=>?_,by simp;omega⟩;have hk2:k<n:=by simpa using hk
 obtain ⟨ad,e,h1,h2⟩:=hf k hk2;have hlt:=World.block_lt_of_cell? w _ h1;rw [ax] at hlt
 have hadd:ad.add (k*2+1)=⟨(ad.add (k*2)).block,(ad.add (k*2)).off+1,none⟩:=by
  rw [wD]
  cases k with
  | zero=>simp [Addr.add]
  | succ m=>simp [Addr.add];omega
 refine ⟨ad,e,hlt,by simpa using h1,?_⟩;rw [←hadd];simpa using h2
theorem iW {w:World} {v:Value} (h:Shp.ok w (.sl [.s]) v):∃ls:List (List UInt8),∃A c,v=.slice A ls.length c∧Txc w v ls∧ls.length≤maxLen:=by
 obtain ⟨ls,h1,h2,_⟩:=Kh h;obtain ⟨_,A,c,e,_⟩:=id h1;exact ⟨ls,A,c,e,h1,h2⟩
theorem uY {q:Int} (h:(Lit.int .u32 q).wf=true):IntKind.i64.wrap q=q:=by
 have h2:0≤q∧q≤4294967295:=by
  simp [Lit.wf,IntKind.min,IntKind.max,IntKind.bits,IntKind.signed] at h;omega
 exact wrap_small _ (by omega) (by omega)
theorem JA {w:World} {us0:List Value} (h:Shp.oks w Ac us0):∃(sv ex ge:Bool) (sw cm us:List UInt8) (own lim peer q0 q1 q2:Int),∃A0 n0 c0 A1 n1 c1 A2 n2 c2 A3 n3 c3 A4 n4 c4 A5 n5 c5 A6 n6 c6 A7 n7 c7 A8 c8 A9 c9 A10 c10,∃(ls:List (List (List UInt8))) (al:List (List UInt8)) (gr:List (List UInt8 × Int)) (ky:List Int),
  us0=[.bool sv,.string (bs sw),.string (bs cm),.slice A0 n0 c0,.slice A1 n1 c1,.slice A2 n2 c2,.slice A3 n3 c3,.slice A4 n4 c4,.slice A5 n5 c5,.slice A6 n6 c6,.slice A7 n7 c7,.slice A8 al.length c8,.int .i64 own,.slice A9 gr.length c9,.int .i64 lim,.int .i64 peer,.string (bs us),.slice A10 ky.length c10,.bool ex,.bool ge,.int .u32 q0,.int .u32 q1,.int .u32 q2]∧CfW w sw cm us [.slice A0 n0 c0,.slice A1 n1 c1,.slice A2 n2 c2,.slice A3 n3 c3,.slice A4 n4 c4,.slice A5 n5 c5,.slice A6 n6 c6,.slice A7 n7 c7] ls A8 c8 al A9 gr A10 ky∧IntKind.i64.wrap q0=q0∧IntKind.i64.wrap q1=q1∧IntKind.i64.wrap q2=q2:=by
 unfold Ac at h;obtain ⟨ub,r0,rfl,k0,g0⟩:=aP h;obtain ⟨u1,r1,rfl,k1,g1⟩:=aP g0;obtain ⟨u2,r2,rfl,k2,g2⟩:=aP g1;obtain ⟨v0,r3,rfl,k3,g3⟩:=aP g2;obtain ⟨v1,r4,rfl,k4,g4⟩:=aP g3;obtain ⟨v2,r5,rfl,k5,g5⟩:=aP g4;obtain ⟨v3,r6,rfl,k6,g6⟩:=aP g5;obtain ⟨v4,r7,rfl,k7,g7⟩:=aP g6;obtain ⟨v5,r8,rfl,k8,g8⟩:=aP g7;obtain ⟨v6,r9,rfl,k9,g9⟩:=aP g8;obtain ⟨v7,r10,rfl,k10,g10⟩:=aP g9;obtain ⟨va,r11,rfl,k11,g11⟩:=aP g10;obtain ⟨wo,r12,rfl,k12,g12⟩:=aP g11;obtain ⟨vg,r13,rfl,k13,g13⟩:=aP g12;obtain ⟨wl,r14,rfl,k14,g14⟩:=aP g13;obtain ⟨wp,r15,rfl,k15,g15⟩:=aP g14;obtain ⟨wu,r16,rfl,k16,g16⟩:=aP g15;obtain ⟨vk,r17,rfl,k17,g17⟩:=aP g16;obtain ⟨we,r18,rfl,k18,g18⟩:=aP g17;obtain ⟨wg,r19,rfl,k19,g19⟩:=aP g18;obtain ⟨x0,r20,rfl,k20,g20⟩:=aP g19;obtain ⟨x1,r21,rfl,k21,g21⟩:=aP g20;obtain ⟨x2,r22,rfl,k22,g22⟩:=aP g21;have hz:r22=[]:=by have:=Fy g22;exact List.eq_nil_of_length_eq_zero this
 subst hz;obtain ⟨l0,A0,c0,rfl,t0,m0⟩:=iW k3;obtain ⟨l1,A1,c1,rfl,t1,m1⟩:=iW k4;obtain ⟨l2,A2,c2,rfl,t2,m2⟩:=iW k5;obtain ⟨l3,A3,c3,rfl,t3,m3⟩:=iW k6;obtain ⟨l4,A4,c4,rfl,t4,m4⟩:=iW k7;obtain ⟨l5,A5,c5,rfl,t5,m5⟩:=iW k8;obtain ⟨l6,A6,c6,rfl,t6,m6⟩:=iW k9;obtain ⟨l7,A7,c7,rfl,t7,m7⟩:=iW k10;obtain ⟨al,A8,c8,rfl,ta,ma⟩:=iW k11;obtain ⟨gr,A9,c9,rfl,tg,mg⟩:=IX k13;obtain ⟨ky,A10,c10,rfl,tk,mk⟩:=OY k17;simp only [Shp.ok] at k0 k1 k2 k12 k14 k15 k16 k18 k19 k20 k21 k22;obtain ⟨sv,rfl⟩:=k0;obtain ⟨s1,rfl,_⟩:=k1;obtain ⟨s2,rfl,_⟩:=k2;obtain ⟨own,rfl,_⟩:=k12;obtain ⟨lim,rfl,_⟩:=k14;obtain ⟨peer,rfl,_⟩:=k15;obtain ⟨s3,rfl,_⟩:=k16;obtain ⟨ex,rfl⟩:=k18;obtain ⟨ge,rfl⟩:=k19;obtain ⟨q0,rfl,hq0⟩:=k20;obtain ⟨q1,rfl,hq1⟩:=k21;obtain ⟨q2,rfl,hq2⟩:=k22;refine ⟨sv,ex,ge,s1.data.toList,s2.data.toList,s3.data.toList,own,lim,peer,q0,q1,q2,A0,l0.length,c0,A1,l1.length,c1,A2,l2.length,c2,A3,l3.length,c3,A4,l4.length,c4,A5,l5.length,c5,A6,l6.length,c6,A7,l7.length,c7,A8,c8,A9,c9,A10,c10,[l0,l1,l2,l3,l4,l5,l6,l7],al,gr,ky,rfl,⟨⟨rfl,rfl,fun i v l h1 h2=>?_⟩,ta.1,?_,ma,tg,mg,tk,mk⟩,uY hq0,uY hq1,uY hq2⟩
 ·match i,h1,h2 with
  | 0,h1,h2=>cases h1;cases h2;exact ⟨t0,m0⟩
  | 1,h1,h2=>cases h1;cases h2;exact ⟨t1,m1⟩
  | 2,h1,h2=>cases h1;cases h2;exact ⟨t2,m2⟩
  | 3,h1,h2=>cases h1;cases h2;exact ⟨t3,m3⟩
  | 4,h1,h2=>cases h1;cases h2;exact ⟨t4,m4⟩
  | 5,h1,h2=>cases h1;cases h2;exact ⟨t5,m5⟩
  | 6,h1,h2=>cases h1;cases h2;exact ⟨t6,m6⟩
  | 7,h1,h2=>cases h1;cases h2;exact ⟨t7,m7⟩
  | n+8,h1,_=>simp at h1
 ·obtain ⟨_,_,_,e,hc⟩:=ta
  injection e with _ _ e3;omega
section
variable {w : World}
theorem Ke {sv ex ge:Bool} {sw cm us:List UInt8} {A0 A1 A2 A3 A4 A5 A6 A7 A8 A9 A10:Option Addr} {n0 n1 n2 n3 n4 n5 n6 n7 c0 c1 c2 c3 c4 c5 c6 c7 c8 c9 c10:Nat} {al:List (List UInt8)} {own lim peer q0 q1 q2:Int} {gr:List (List UInt8 × Int)} {ky:List Int} {ls:List (List (List UInt8))} (hC:CfW w sw cm us [.slice A0 n0 c0,.slice A1 n1 c1,.slice A2 n2 c2,.slice A3 n3 c3,.slice A4 n4 c4,.slice A5 n5 c5,.slice A6 n6 c6,.slice A7 n7 c7] ls A8 c8 al A9 gr A10 ky):Calls Tryz.prog 35 #[.agg #[.bool sv,.string (bs sw),.string (bs cm),.slice A0 n0 c0,.slice A1 n1 c1,.slice A2 n2 c2,.slice A3 n3 c3,.slice A4 n4 c4,.slice A5 n5 c5,.slice A6 n6 c6,.slice A7 n7 c7,.slice A8 al.length c8,.int .i64 own,.slice A9 gr.length c9,.int .i64 lim,.int .i64 peer,.string (bs us),.slice A10 ky.length c10,.bool ex,.bool ge,.int .u32 q0,.int .u32 q1,.int .u32 q2]] w (fun e w'=>e=.returned (.bool (iH sw cm us ls al gr ky))∧Below w.heap.size w w'):=by
 obtain ⟨W0,hW0⟩:∃W0,W0=w.alloc (.cells #[.bool sv,.string (bs sw),.string (bs cm),.slice A0 n0 c0,.slice A1 n1 c1,.slice A2 n2 c2,.slice A3 n3 c3,.slice A4 n4 c4,.slice A5 n5 c5,.slice A6 n6 c6,.slice A7 n7 c7,.slice A8 al.length c8,.int .i64 own,.slice A9 gr.length c9,.int .i64 lim,.int .i64 peer,.string (bs us),.slice A10 ky.length c10,.bool ex,.bool ge,.int .u32 q0,.int .u32 q1,.int .u32 q2] 30):=⟨_,rfl⟩
 have hb0:Below w.heap.size w W0:=by rw [hW0];exact aa
 have hX0:Blk W0 w.heap.size 30 #[.bool sv,.string (bs sw),.string (bs cm),.slice A0 n0 c0,.slice A1 n1 c1,.slice A2 n2 c2,.slice A3 n3 c3,.slice A4 n4 c4,.slice A5 n5 c5,.slice A6 n6 c6,.slice A7 n7 c7,.slice A8 al.length c8,.int .i64 own,.slice A9 gr.length c9,.int .i64 lim,.int .i64 peer,.string (bs us),.slice A10 ky.length c10,.bool ex,.bool ge,.int .u32 q0,.int .u32 q1,.int .u32 q2]:=by rw [hW0];exact Blk.new w _ _
 have HF:=hide (GA (hC.hl8.allS.below hb0));have HX:=hide (And.intro hb0 (And.intro hX0 hC));have hlt0:=hX0.lt;have z3:=hX0.cell 3;have z4:=hX0.cell 4;have z5:=hX0.cell 5;have z6:=hX0.cell 6;have z7:=hX0.cell 7;have z8:=hX0.cell 8;have z9:=hX0.cell 9;have z10:=hX0.cell 10;simp only [List.getElem?_toArray,List.getElem?_cons_zero,List.getElem?_cons_succ] at z3 z4 z5 z6 z7 z8 z9 z10;clear hb0 hX0 hC
 cases hf:qY (ls.map bss) with
 | false =>
  rw [hf] at HF;have E:=hide (show iH sw cm us ls al gr ky=false from by unfold iH;rw [hf];simp);clear hf;go_enter Tryz.func35,Tryz.ntmps35;go_upto_region 1 with fail;rw [←hW0];clear hW0;go_wp2_with (first | (go_at_call 80;refine HF.out.mono ?_;rintro e w1 ⟨rfl,hb1⟩;have hX1:=HX.out.2.1.below hb1 hlt0;have y1:=hX1.cell 1;have y2:=hX1.cell 2;have y11:=hX1.cell 11;have y13:=hX1.cell 13;have y16:=hX1.cell 16;have y17:=hX1.cell 17;simp only [List.getElem?_toArray,List.getElem?_cons_zero,List.getElem?_cons_succ] at y1 y2 y11 y13 y16 y17) | fail);go_ret;exact ⟨by rw [E.out];rfl,HX.out.1.trans (hb1.mono HX.out.1.size)⟩
 | true =>
  rw [hf] at HF
  by_cases g0:al.length≤20
  rotate_left 1
  ·have g0b:(20:Int)<al.length:=by omega
   have E:=hide (show iH sw cm us ls al gr ky=false from by unfold iH;rw [decide_eq_false g0];simp);clear hf;have g0d:decide ((20:Int)<(al.length:Int))=true:=decide_eq_true g0b;go_enter Tryz.func35,Tryz.ntmps35;go_upto_region 1 with fail;rw [←hW0];clear hW0;go_wp2_with (first | (go_at_call 80;refine HF.out.mono ?_;rintro e w1 ⟨rfl,hb1⟩;have hX1:=HX.out.2.1.below hb1 hlt0;have y1:=hX1.cell 1;have y2:=hX1.cell 2;have y11:=hX1.cell 11;have y13:=hX1.cell 13;have y16:=hX1.cell 16;have y17:=hX1.cell 17;simp only [List.getElem?_toArray,List.getElem?_cons_zero,List.getElem?_cons_succ] at y1 y2 y11 y13 y16 y17) | fail);go_ret;exact ⟨by rw [E.out];rfl,HX.out.1.trans (hb1.mono HX.out.1.size)⟩
  ·have g0b:¬ (20:Int)<al.length:=by omega
   have g0d:decide ((20:Int)<(al.length:Int))=false:=decide_eq_false g0b
   by_cases g1:gr.length≤20
   rotate_left 1
   ·have g1b:(20:Int)<gr.length:=by omega
    have E:=hide (show iH sw cm us ls al gr ky=false from by unfold iH;rw [decide_eq_false g1];simp);clear hf;have g1d:decide ((20:Int)<(gr.length:Int))=true:=decide_eq_true g1b;go_enter Tryz.func35,Tryz.ntmps35;go_upto_region 1 with fail;rw [←hW0];clear hW0;go_wp2_with (first | (go_at_call 80;refine HF.out.mono ?_;rintro e w1 ⟨rfl,hb1⟩;have hX1:=HX.out.2.1.below hb1 hlt0;have y1:=hX1.cell 1;have y2:=hX1.cell 2;have y11:=hX1.cell 11;have y13:=hX1.cell 13;have y16:=hX1.cell 16;have y17:=hX1.cell 17;simp only [List.getElem?_toArray,List.getElem?_cons_zero,List.getElem?_cons_succ] at y1 y2 y11 y13 y16 y17) | fail);go_ret;exact ⟨by rw [E.out];rfl,HX.out.1.trans (hb1.mono HX.out.1.size)⟩
   ·have g1b:¬ (20:Int)<gr.length:=by omega
    have g1d:decide ((20:Int)<(gr.length:Int))=false:=decide_eq_false g1b
    by_cases g2:ky.length≤20
    rotate_left 1
    ·have g2b:(20:Int)<ky.length:=by omega
     have E:=hide (show iH sw cm us ls al gr ky=false from by unfold iH;rw [decide_eq_false g2];simp);clear hf;have g2d:decide ((20:Int)<(ky.length:Int))=true:=decide_eq_true g2b;go_enter Tryz.func35,Tryz.ntmps35;go_upto_region 1 with fail;rw [←hW0];clear hW0;go_wp2_with (first | (go_at_call 80;refine HF.out.mono ?_;rintro e w1 ⟨rfl,hb1⟩;have hX1:=HX.out.2.1.below hb1 hlt0;have y1:=hX1.cell 1;have y2:=hX1.cell 2;have y11:=hX1.cell 11;have y13:=hX1.cell 13;have y16:=hX1.cell 16;have y17:=hX1.cell 17;simp only [List.getElem?_toArray,List.getElem?_cons_zero,List.getElem?_cons_succ] at y1 y2 y11 y13 y16 y17) | fail);go_ret;exact ⟨by rw [E.out];rfl,HX.out.1.trans (hb1.mono HX.out.1.size)⟩
    ·have g2b:¬ (20:Int)<ky.length:=by omega
     have g2d:decide ((20:Int)<(ky.length:Int))=false:=decide_eq_false g2b
     by_cases g3:sw.length≤300
     rotate_left 1
     ·have g3b:(300:Int)<sw.length:=by omega
      have E:=hide (show iH sw cm us ls al gr ky=false from by unfold iH;rw [decide_eq_false g3];simp);clear hf;have g3d:decide ((300:Int)<(sw.length:Int))=true:=decide_eq_true g3b;have g3c:decide ((300:Int)<((bs sw).size:Int))=true:=decide_eq_true g3b;go_enter Tryz.func35,Tryz.ntmps35;go_upto_region 1 with fail;rw [←hW0];clear hW0;go_wp2_with (first | (go_at_call 80;refine HF.out.mono ?_;rintro e w1 ⟨rfl,hb1⟩;have hX1:=HX.out.2.1.below hb1 hlt0;have y1:=hX1.cell 1;have y2:=hX1.cell 2;have y11:=hX1.cell 11;have y13:=hX1.cell 13;have y16:=hX1.cell 16;have y17:=hX1.cell 17;simp only [List.getElem?_toArray,List.getElem?_cons_zero,List.getElem?_cons_succ] at y1 y2 y11 y13 y16 y17) | fail);go_ret;exact ⟨by rw [E.out];rfl,HX.out.1.trans (hb1.mono HX.out.1.size)⟩
     ·have g3b:¬ (300:Int)<sw.length:=by omega
      have g3d:decide ((300:Int)<(sw.length:Int))=false:=decide_eq_false g3b;have g3c:decide ((300:Int)<((bs sw).size:Int))=false:=decide_eq_false g3b
      by_cases g4:cm.length≤300
      rotate_left 1
      ·have g4b:(300:Int)<cm.length:=by omega
       have E:=hide (show iH sw cm us ls al gr ky=false from by unfold iH;rw [decide_eq_false g4];simp);clear hf;have g4d:decide ((300:Int)<(cm.length:Int))=true:=decide_eq_true g4b;have g4c:decide ((300:Int)<((bs cm).size:Int))=true:=decide_eq_true g4b;go_enter Tryz.func35,Tryz.ntmps35;go_upto_region 1 with fail;rw [←hW0];clear hW0;go_wp2_with (first | (go_at_call 80;refine HF.out.mono ?_;rintro e w1 ⟨rfl,hb1⟩;have hX1:=HX.out.2.1.below hb1 hlt0;have y1:=hX1.cell 1;have y2:=hX1.cell 2;have y11:=hX1.cell 11;have y13:=hX1.cell 13;have y16:=hX1.cell 16;have y17:=hX1.cell 17;simp only [List.getElem?_toArray,List.getElem?_cons_zero,List.getElem?_cons_succ] at y1 y2 y11 y13 y16 y17) | fail);go_ret;exact ⟨by rw [E.out];rfl,HX.out.1.trans (hb1.mono HX.out.1.size)⟩
      ·have g4b:¬ (300:Int)<cm.length:=by omega
       have g4d:decide ((300:Int)<(cm.length:Int))=false:=decide_eq_false g4b;have g4c:decide ((300:Int)<((bs cm).size:Int))=false:=decide_eq_false g4b
       by_cases g5:us.length≤300
       rotate_left 1
       ·have g5b:(300:Int)<us.length:=by omega
        have E:=hide (show iH sw cm us ls al gr ky=false from by unfold iH;rw [decide_eq_false g5];simp);clear hf;have g5d:decide ((300:Int)<(us.length:Int))=true:=decide_eq_true g5b;have g5c:decide ((300:Int)<((bs us).size:Int))=true:=decide_eq_true g5b;go_enter Tryz.func35,Tryz.ntmps35;go_upto_region 1 with fail;rw [←hW0];clear hW0;go_wp2_with (first | (go_at_call 80;refine HF.out.mono ?_;rintro e w1 ⟨rfl,hb1⟩;have hX1:=HX.out.2.1.below hb1 hlt0;have y1:=hX1.cell 1;have y2:=hX1.cell 2;have y11:=hX1.cell 11;have y13:=hX1.cell 13;have y16:=hX1.cell 16;have y17:=hX1.cell 17;simp only [List.getElem?_toArray,List.getElem?_cons_zero,List.getElem?_cons_succ] at y1 y2 y11 y13 y16 y17) | fail);go_ret;exact ⟨by rw [E.out];rfl,HX.out.1.trans (hb1.mono HX.out.1.size)⟩
       ·have g5b:¬ (300:Int)<us.length:=by omega
        have g5d:decide ((300:Int)<(us.length:Int))=false:=decide_eq_false g5b;have g5c:decide ((300:Int)<((bs us).size:Int))=false:=decide_eq_false g5b;have HE:=hide (show iH sw cm us ls al gr ky=(al.all (fun x=>decide (x.length≤300)) && gr.all (fun x=>decide (x.1.length≤300))) from by unfold iH;rw [hf,decide_eq_true g0,decide_eq_true g1,decide_eq_true g2,decide_eq_true g3,decide_eq_true g4,decide_eq_true g5];simp);clear hf;go_enter Tryz.func35,Tryz.ntmps35;go_upto_region 1 with fail;rw [←hW0];clear hW0;go_wp2_with (first | (go_at_call 80;refine HF.out.mono ?_;rintro e w1 ⟨rfl,hb1⟩;have hX1:=HX.out.2.1.below hb1 hlt0;have y1:=hX1.cell 1;have y2:=hX1.cell 2;have y11:=hX1.cell 11;have y13:=hX1.cell 13;have y16:=hX1.cell 16;have y17:=hX1.cell 17;simp only [List.getElem?_toArray,List.getElem?_cons_zero,List.getElem?_cons_succ] at y1 y2 y11 y13 y16 y17) | fail);have HA:=hide ((HX.out.2.2.hal.below (HX.out.1.trans (hb1.mono HX.out.1.size))).open_);have HG:=hide (HX.out.2.2.hgr.below (HX.out.1.trans (hb1.mono HX.out.1.size)));have HB1:=hide (HX.out.1.trans (hb1.mono HX.out.1.size));obtain ⟨A',c',hv,hA⟩:=HA.out;obtain ⟨rfl,rfl⟩:A'=A8∧c'=c8:=by injection hv with e1 _ e2;exact ⟨e1.symm,e2.symm⟩
        have HA:=hide hA;clear hv hA
        go_loop [3] (fun i=>∃k:Nat,k≤al.length∧i=.int .i64 k∧Hid (∀x∈al.take k,x.length≤300)) (fun i=>al.length - (intOf i).toNat)
        case atStart=>exact ⟨0,Nat.zero_le _,rfl,hide (by simp)⟩
        case round =>
         obtain ⟨k,hk,rfl,H⟩:=hrel
         by_cases hlt:k<al.length
         ·have hltI:(k:Int)<al.length:=by omega
          obtain ⟨ad,rfl,had,hc0⟩:=HA.out k hlt
          by_cases h3:al[k].length≤300
          ·have h3b:¬ (300:Int)<al[k].length:=by omega
           have H2:=hide (show ∀x∈al.take (k+1),x.length≤300 from by
            intro x hx;rw [List.take_succ_eq_append_getElem hlt] at hx;rcases List.mem_append.1 hx with hx | hx
            ·exact H.out x hx
            ·simp only [List.mem_singleton] at hx
             subst hx
             exact h3)
           clear H HA;go_wp2_with fail;go_round
           case rel=>exact ⟨k+1,hlt,by go_num,H2⟩
           case measure=>simp [intOf];omega
          ·have h3b:(300:Int)<al[k].length:=by omega
           have E:=hide (show iH sw cm us ls al gr ky=false from by rw [HE.out,nU (List.getElem_mem hlt) (decide_eq_false h3),Bool.false_and]);clear H HA;go_wp2_with fail;go_ret;exact ⟨by rw [E.out];rfl,HB1.out⟩
         ·have hltI:¬ (k:Int)<al.length:=by omega
          have HAL:=hide (show al.all (fun x=>decide (x.length≤300))=true from List.all_eq_true.2 (fun x hx=>decide_eq_true (H.out x (by rw [List.take_of_length_le (by omega)];exact hx))));clear H HA;go_wp2_with fail
          go_loop [4] (fun i=>∃k:Nat,k≤gr.length∧i=.int .i64 k∧Hid (∀x∈gr.take k,x.1.length≤300)) (fun i=>gr.length - (intOf i).toNat)
          case atStart=>exact ⟨0,Nat.zero_le _,rfl,hide (by simp)⟩
          case round =>
           obtain ⟨k2,hk2,rfl,H⟩:=hrel
           by_cases hlt2:k2<gr.length
           ·have hltJ:(k2:Int)<gr.length:=by omega
            obtain ⟨ad,rfl,had,hc0,hc1⟩:=HG.out k2 hlt2
            by_cases h3:gr[k2].1.length≤300
            ·have h3b:¬ (300:Int)<gr[k2].1.length:=by omega
             have H2:=hide (show ∀x∈gr.take (k2+1),x.1.length≤300 from by
              intro x hx;rw [List.take_succ_eq_append_getElem hlt2] at hx;rcases List.mem_append.1 hx with hx | hx
              ·exact H.out x hx
              ·simp only [List.mem_singleton] at hx
               subst hx
               exact h3)
             clear H HG;go_wp2_with fail;go_round
             case rel=>exact ⟨k2+1,hlt2,by go_num,H2⟩
             case measure=>simp [intOf];omega
            ·have h3b:(300:Int)<gr[k2].1.length:=by omega
             have E:=hide (show iH sw cm us ls al gr ky=false from by rw [HE.out,nU (List.getElem_mem hlt2) (decide_eq_false h3),Bool.and_false]);clear H HG;go_wp2_with fail;go_ret;exact ⟨by rw [E.out];rfl,HB1.out⟩
           ·have hltJ:¬ (k2:Int)<gr.length:=by omega
            have E:=hide (show iH sw cm us ls al gr ky=true from by rw [HE.out,HAL.out,Bool.true_and];exact List.all_eq_true.2 (fun x hx=>decide_eq_true (H.out x (by rw [List.take_of_length_le (by omega)];exact hx))));clear H HG;go_wp2_with fail;go_ret;exact ⟨by rw [E.out];rfl,HB1.out⟩
end
structure CfP where
 sv:Bool
 ex:Bool
 ge:Bool
 sw:List UInt8
 cm:List UInt8
 us:List UInt8
 A0:Option Addr
 A1:Option Addr
 A2:Option Addr
 A3:Option Addr
 A4:Option Addr
 A5:Option Addr
 A6:Option Addr
 A7:Option Addr
 A8:Option Addr
 A9:Option Addr
 A10:Option Addr
 n0:Nat
 n1:Nat
 n2:Nat
 n3:Nat
 n4:Nat
 n5:Nat
 n6:Nat
 n7:Nat
 c0:Nat
 c1:Nat
 c2:Nat
 c3:Nat
 c4:Nat
 c5:Nat
 c6:Nat
 c7:Nat
 c8:Nat
 c9:Nat
 c10:Nat
 al:List (List UInt8)
 own:Int
 lim:Int
 peer:Int
 q0:Int
 q1:Int
 q2:Int
 gr:List (List UInt8 × Int)
 ky:List Int
 ls:List (List (List UInt8))
def CfP.cells (c:CfP):Array Value:=#[.bool c.sv,.string (bs c.sw),.string (bs c.cm),.slice c.A0 c.n0 c.c0,.slice c.A1 c.n1 c.c1,.slice c.A2 c.n2 c.c2,.slice c.A3 c.n3 c.c3,.slice c.A4 c.n4 c.c4,.slice c.A5 c.n5 c.c5,.slice c.A6 c.n6 c.c6,.slice c.A7 c.n7 c.c7,.slice c.A8 c.al.length c.c8,.int .i64 c.own,.slice c.A9 c.gr.length c.c9,.int .i64 c.lim,.int .i64 c.peer,.string (bs c.us),.slice c.A10 c.ky.length c.c10,.bool c.ex,.bool c.ge,.int .u32 c.q0,.int .u32 c.q1,.int .u32 c.q2]
def CfP.val (c:CfP):Value:=.agg c.cells
def CfP.M (c:CfP) (w:World):Prop:=CfM w c.sw c.cm c.us [.slice c.A0 c.n0 c.c0,.slice c.A1 c.n1 c.c1,.slice c.A2 c.n2 c.c2,.slice c.A3 c.n3 c.c3,.slice c.A4 c.n4 c.c4,.slice c.A5 c.n5 c.c5,.slice c.A6 c.n6 c.c6,.slice c.A7 c.n7 c.c7] c.ls c.A8 c.c8 c.al c.A9 c.gr c.A10 c.ky
theorem CfP.M.below {c:CfP} {w w':World} (h:c.M w) (hb:Below w.heap.size w w'):c.M w':=CfM.below h hb
def CfP.err (c:CfP):fP:=Et c.sv c.sw c.cm c.us c.ls c.own c.lim c.peer c.q0 c.q1 c.q2 c.al c.gr c.ky
section
variable {w : World}
theorem CfP.check (c:CfP) (hM:fC w) (hW:gJ w) (h:c.M w):Calls Tryz.prog 81 #[c.val] w (eX c.err w):=Dt hM hW h
theorem CfP.rcheck (c:CfP) (h:c.M w) (h0:IntKind.i64.wrap c.q0=c.q0) (h1:IntKind.i64.wrap c.q1=c.q1) (h2:IntKind.i64.wrap c.q2=c.q2) :
  Calls Tryz.prog 88 #[c.val] w (fun e w'=>e=.returned (.tuple #[.int .i64 (pz c.err),.string (bs (tL c.err))])∧Below w.heap.size w w'):=by
 obtain ⟨sv,ex,ge,sw,cm,us,A0,A1,A2,A3,A4,A5,A6,A7,A8,A9,A10,n0,n1,n2,n3,n4,n5,n6,n7,c0,c1,c2,c3,c4,c5,c6,c7,c8,c9,c10,al,own,lim,peer,q0,q1,q2,gr,ky,ls⟩:=c
 cases sv with
 | true=>exact Kn h h0 h1 h2
 | false=>exact Ma h h0 h1 h2
end
def wrA:Array Value→Nat→List Value→Array Value
 | cs,_,[]=>cs
 | cs,o,v :: r=>wrA (cs.setIfInBounds o v) (o+1) r
theorem BN:∀(vs pre post:List Value),post.length=vs.length→wrA (pre++post).toArray pre.length vs=(pre++vs).toArray
 | [],pre,post,h=>by
  have:post=[]:=List.eq_nil_of_length_eq_zero h;subst this;rfl
 | v :: r,pre,[],h=>by cases h
 | v :: r,pre,p :: post,h=>by
  have h2:=BN r (pre++[v]) post (by simpa using h);rw [List.length_append,List.length_singleton] at h2;unfold wrA;rw [List.setIfInBounds_toArray,List.set_append_right _ _ (Nat.le_refl _),Nat.sub_self,List.set_cons_zero];rw [show pre++v :: post=pre++[v]++post by simp,h2];simp
theorem yl {cs:Array Value} {vs:List Value} (h:cs.toList.length=vs.length):wrA cs 0 vs=vs.toArray:=by
 have:=BN vs [] cs.toList h;simpa using this
theorem Blk.setCells {b:Nat} {t:TypeId}:∀(vs:List Value) (o:Nat) {w:World} {cs:Array Value},Blk w b t cs→Blk (w.setCells b o vs) b t (wrA cs o vs)
 | [],_,_,_,h=>h
 | v :: r,o,_,_,h=>Blk.setCells r (o+1) (h.set_ o v)
theorem Blk.setCells_far {b g:Nat} {t:TypeId} {cs:Array Value} (hne:g≠b):∀(vs:List Value) (o:Nat) {w:World},Blk w g t cs→Blk (w.setCells b o vs) g t cs
 | [],_,_,h=>h
 | v :: r,o,_,h=>Blk.setCells_far hne r (o+1) (h.far (p:=⟨b,o,none⟩) hne v)
theorem below_setCells {B b:Nat} {w0:World} (hb:B≤b):∀(vs:List Value) (o:Nat) {w:World},Below B w0 w→Below B w0 (w.setCells b o vs)
 | [],_,_,h=>h
 | v :: r,o,_,h=>below_setCells hb r (o+1) (h.setCell (p:=⟨b,o,none⟩) hb v)
theorem bG.setCells {lo b:Nat} {v:Value} {l:List (List UInt8)} (hb:b<lo):∀(vs:List Value) (o:Nat) {w:World},bG lo w v l→bG lo (w.setCells b o vs) v l
 | [],_,_,h=>h
 | u :: r,o,_,h=>bG.setCells hb r (o+1) (h.set_ (p:=⟨b,o,none⟩) hb u)
theorem qp {w:World} {b:Nat} {t:TypeId} {cs:Array Value} {n:Nat} (h:Blk w b t cs) (hn:n≤cs.size):w.there b 0 n:=fun j hj=>by
 rw [Nat.zero_add,h.cell j,Array.getElem?_eq_getElem (by omega)];exact ⟨rfl,h.frozen j⟩
theorem gL {w:World} {ops:Array Oper} {rest:List Oper} {op:Oper} {a:Act} {Q:Exit→Act→World→Prop} (hgd:op.guard=none) (x y:Operand) (ho:op.op=.store 30 x y) {b:Nat} (hx:a.eval x=.pointer (some ⟨b,0,none⟩)) {cv cs:Array Value} (hy:a.eval y=.agg cv)
  (hX:Blk w b 30 cs) (hc:cs.size=23) (hl:cv.size=23) (h1:cv.all (·.oneCell')=true)
  (h:wpList Tryz.prog ops Q rest (a.put op.dst undef) (w.setCells b 0 cv.toList)):wpList Tryz.prog ops Q (op :: rest) a w :=
 wpList_store_mid hgd 30 x y ho b 0 cv hx hy (qp hX (by omega)) (by rw [hl];exact oK) h1 h
theorem aW {w w':World} {v:Value} {ops:Array Oper} {rest:List Oper} {op:Oper} {a:Act} {Q:Exit→Act→World→Prop} (hgd:op.guard=none) (hr:(execOp a.eval op).run Tryz.prog w=.ok (.value v) w')
  (h:wpList Tryz.prog ops Q rest (a.put op.dst v) w'):wpList Tryz.prog ops Q (op :: rest) a w :=
 wpList_plain hgd fun _ hK=>by
  unfold Oper.wp;rw [hr];exact hK _ _ h
theorem bZ {w:World} {f:FuncId} {args:Array Value} {ops:Array Oper} {rest:List Oper} {op:Oper} {a:Act} {Q:Exit→Act→World→Prop} (hgd:op.guard=none) (hr:(execOp a.eval op).run Tryz.prog w=.ok (.enter f args) w)
  {post:Ending→World→Prop} (hc:Calls Tryz.prog f args w post) (h:∀e w',post e w'→∃r,e=.returned r∧wpList Tryz.prog ops Q rest (a.put op.dst r) w'):wpList Tryz.prog ops Q (op :: rest) a w :=
 wpList_plain hgd fun _ hK=>by
  unfold Oper.wp;rw [hr,Oper.upon_enter];refine hc.mono fun e w' hp=>?_
  obtain ⟨r,rfl,hk⟩:=h e w' hp;exact hK _ _ hk
theorem vM {w:World} {fn:Func} {t:Tmp} {ty:TypeId} {d:TypeDesc} (h:fn.results=#[.cell t ty]) {tmps:Array Value} {b:Nat} (ht:tmps.getD t undef=.pointer (some ⟨b,0,none⟩)) {cs:List Value} (hX:Blk w b ty cs.toArray)
  (hu:Tryz.prog.underlying ty=some d) (hd:d.isRow=true) (hi:(Tryz.prog.info? ty).map (·.size)=some cs.length):(results fn tmps).run Tryz.prog w=.ok (.agg cs.toArray) w:=by
 have key:=run_loadVar_mid w b 0 ty cs d (yI hX) hu hd hi;have ht2:tmps[t]?.getD undef=.pointer (some ⟨b,0,none⟩):=by simpa using ht
 simp [results,h,ht2,asAddr,Sem.run_bind,key]
theorem oO {w:World} {fn:Func} {t:Tmp} (h:fn.results=#[.cell t 30]) {tmps:Array Value} {b:Nat} (ht:tmps.getD t undef=.pointer (some ⟨b,0,none⟩)) {cs:Array Value} (hX:Blk w b 30 cs) (hl:cs.toList.length=23) :
  (results fn tmps).run Tryz.prog w=.ok (.agg cs) w:=by
 have:=vM h ht (cs:=cs.toList) (by rw [Array.toArray_toList];exact hX) Tryz.underlying30 rfl (by rw [hl];exact oK);rwa [Array.toArray_toList] at this
def mY:Array Value:=#[.bool false,.string ⟨#[]⟩,.string ⟨#[]⟩,.slice none 0 0,.slice none 0 0,.slice none 0 0,.slice none 0 0,.slice none 0 0,.slice none 0 0,.slice none 0 0,.slice none 0 0,.slice none 0 0,.int .i64 0,.slice none 0 0,.int .i64 0,.int .i64 0,.string ⟨#[]⟩,.slice none 0 0,.bool false,.bool false,.int .u32 0,.int .u32 0,.int .u32 0]
theorem Rf (o:Oper) (ho:o.op=.build 30 #[(0,.tmp 6),(1,.const (.string ⟨#[112,108,97,105,110]⟩)),(3,.tmp 7),(4,.tmp 8)]) (ρ:Operand→Value) {sv:Bool} {B0 B1 B2 B3 B4 B5 B6 B7 B8:Option Addr} {m0 m1 m2 m3 m4 m5 m6 m7 n8 d0 d1 d2 d3 d4 d5 d6 d7 d8:Nat} (h6:ρ (.tmp 6)=.bool sv) (h7:ρ (.tmp 7)=.agg #[.slice B0 m0 d0,.slice B1 m1 d1,.slice B2 m2 d2,.slice B3 m3 d3,.slice B4 m4 d4,.slice B5 m5 d5,.slice B6 m6 d6,.slice B7 m7 d7]) (h8:ρ (.tmp 8)=.slice B8 n8 d8) (hk:ρ (.const (.string ⟨#[112,108,97,105,110]⟩))=.string ⟨#[112,108,97,105,110]⟩) (w:World) :
  (execOp ρ o).run Tryz.prog w=.ok (.value (.agg #[.bool sv,.string ⟨#[112,108,97,105,110]⟩,.string ⟨#[]⟩,.slice B0 m0 d0,.slice B1 m1 d1,.slice B2 m2 d2,.slice B3 m3 d3,.slice B4 m4 d4,.slice B5 m5 d5,.slice B6 m6 d6,.slice B7 m7 d7,.slice B8 n8 d8,.int .i64 0,.slice none 0 0,.int .i64 0,.int .i64 0,.string ⟨#[]⟩,.slice none 0 0,.bool false,.bool false,.int .u32 0,.int .u32 0,.int .u32 0])) w:=by
 obtain ⟨d,op,t,p,af,gd⟩:=o;simp only at ho;subst ho;go_simp
theorem Q7 (o:Oper) (ho:o.op=.alloc 30) (ρ:Operand→Value) (w:World):(execOp ρ o).run Tryz.prog w=.ok (.value (.pointer (some ⟨w.heap.size,0,none⟩))) (w.alloc (.cells mY 30)):=by
 obtain ⟨d,op,t,p,af,gd⟩:=o;simp only at ho;subst ho;unfold mY;go_simp
theorem Gn {w:World} {g:Nat} {n:Int} {t:TypeId} (h:Blk w g t #[.int .i64 n]):InC w (some ⟨g,0,none⟩) [n]:=fun k hk=>by
 have hk0:k=0:=by simp at hk;exact hk
 subst hk0;refine ⟨⟨g,0,none⟩,rfl,h.lt,?_⟩;have:=h.cell 0;simpa [Addr.add] using this
theorem sj {lo:Nat} {w:World} {vs:List Value} (hv:vs.length=8) (h:∀(i:Nat) v l,vs[i]?=some v→fJ[i]?=some l→bG lo w v l):pJ w vs fJ :=
 ⟨hv,rfl,fun i v l h1 h2=>by
  have hs:fJ.all (fun l=>decide (l.length≤1000000) && l.all fun y=>decide (y.length≤1000000))=true:=by decide
  have h3:=List.all_eq_true.1 hs l (List.mem_of_getElem? h2);simp only [Bool.and_eq_true,decide_eq_true_eq,List.all_eq_true] at h3
  exact ⟨(h i v l h1 h2).txc,h3.1,h3.2⟩⟩
theorem bG.keepL {lo lo2:Nat} {w V:World} {v:Value} {ls:List (List UInt8)} (h:bG lo2 w v ls) (hl:lo≤lo2) (hs:w.heap.size≤V.heap.size) (hk:∀p:Addr,lo≤p.block→p.block<w.heap.size→V.cell? p=w.cell? p):bG lo2 V v ls:=by
 obtain ⟨A,c,e,hc,hS⟩:=h;exact ⟨A,c,e,hc,hS.keep hs (fun p h1 h2=>hk p (Nat.le_trans hl h1) h2)⟩
section
variable {w : World}
theorem nu {P:Program} {ops:Array Oper} {rest:List Oper} {o:Oper} {a:Act} {Q:Exit→Act→World→Prop} (hw:Region.wanted o (yielded ops a.tmps)=true)
  (h:∀K:Act→World→Prop,(∀a w,wpList P ops Q rest a w→K a w)→o.wp P a w K Q):wpList P ops Q (o :: rest) a w:=by
 unfold wpList;rw [if_pos hw];exact .inl (h _ (fun _ _ h=>h))
theorem aM {w':World} {v:Value} {ops:Array Oper} {rest:List Oper} {op:Oper} {a:Act} {Q:Exit→Act→World→Prop} (hw:Region.wanted op (yielded ops a.tmps)=true) (hr:(execOp a.eval op).run Tryz.prog w=.ok (.value v) w')
  (h:wpList Tryz.prog ops Q rest (a.put op.dst v) w'):wpList Tryz.prog ops Q (op :: rest) a w :=
 nu hw fun _ hK=>by
  unfold Oper.wp;rw [hr];exact hK _ _ h
theorem bM {f:FuncId} {args:Array Value} {ops:Array Oper} {rest:List Oper} {op:Oper} {a:Act} {Q:Exit→Act→World→Prop} (hw:Region.wanted op (yielded ops a.tmps)=true) (hr:(execOp a.eval op).run Tryz.prog w=.ok (.enter f args) w)
  {post:Ending→World→Prop} (hc:Calls Tryz.prog f args w post) (h:∀e w',post e w'→∃r,e=.returned r∧wpList Tryz.prog ops Q rest (a.put op.dst r) w'):wpList Tryz.prog ops Q (op :: rest) a w :=
 nu hw fun _ hK=>by
  unfold Oper.wp;rw [hr,Oper.upon_enter];refine hc.mono fun e w' hp=>?_
  obtain ⟨r,rfl,hk⟩:=h e w' hp;exact hK _ _ hk
end
def jo (gs:List (List UInt8 × Int)):List Value:=gs.flatMap fun g=>[.string (bs g.1),.int .i64 g.2]
theorem xm (gs:List (List UInt8 × Int)):(jo gs).length=gs.length*2:=by
 induction gs with
 | nil=>rfl
 | cons g r ih =>
  show (jo r).length+2=_;rw [ih,List.length_cons];omega
theorem xz:∀(gs:List (List UInt8 × Int)) (k:Nat),(hk:k<gs.length)→(jo gs)[k*2]?=some (.string (bs gs[k].1))∧(jo gs)[k*2+1]?=some (.int .i64 gs[k].2)
 | g :: r,0,_=>⟨rfl,rfl⟩
 | g :: r,k+1,hk=>by
  have h:=xz r k (by simpa using hk)
  have e1:(jo (g :: r))[(k+1)*2]?=(jo r)[k*2]?:=by
   show (Value.string (bs g.1) :: Value.int .i64 g.2 :: jo r)[(k+1)*2]?=_;rw [show (k+1)*2=k*2+1+1 by omega,List.getElem?_cons_succ,List.getElem?_cons_succ]
  have e2:(jo (g :: r))[(k+1)*2+1]?=(jo r)[k*2+1]?:=by
   show (Value.string (bs g.1) :: Value.int .i64 g.2 :: jo r)[(k+1)*2+1]?=_;rw [show (k+1)*2+1=k*2+1+1+1 by omega,List.getElem?_cons_succ,List.getElem?_cons_succ]
  rw [e1,e2];exact h
theorem Jh (gs:List (List UInt8 × Int)):∀u∈jo gs,u.oneCell'=true:=by
 intro u hu;unfold jo at hu;obtain ⟨g,_,hg⟩:=List.mem_flatMap.1 hu;simp only [List.mem_cons,List.mem_nil_iff,or_false] at hg;rcases hg with rfl | rfl <;> rfl
theorem P9 {ad:Addr} {k:Nat}:ad.add (k*2+1)=⟨(ad.add (k*2)).block,(ad.add (k*2)).off+1,none⟩:=by
 rw [wD]
 cases k with
 | zero=>simp [Addr.add]
 | succ m=>simp [Addr.add];omega
theorem GrC.reads {w:World} {A:Option Addr} {gs:List (List UInt8 × Int)} (h:GrC w A gs):Reads w w.heap.size 2 A gs.length (jo gs):=by
 refine ⟨xm gs,fun hn=>?_⟩;obtain ⟨ad,e,hlt,_⟩:=h 0 hn;refine ⟨ad,e,hlt,fun j u hu=>?_⟩;have hj:j<gs.length*2:=by rw [←xm];exact (List.getElem?_eq_some_iff.1 hu).1
 have hk:j / 2<gs.length:=by omega
 obtain ⟨ad2,e2,_,c0,c1⟩:=h (j / 2) hk;obtain rfl:ad=ad2:=by rw [e] at e2;exact Option.some.inj e2
 obtain ⟨g0,g1⟩:=xz gs (j / 2) hk;rcases Nat.mod_two_eq_zero_or_one j with hm | hm
 ·have ej:j=j / 2*2:=by omega
  generalize j / 2=m at *;subst ej;rw [g0] at hu;cases hu
  exact c0
 ·have ej:j=j / 2*2+1:=by omega
  generalize j / 2=m at *;subst ej;rw [g1] at hu;cases hu
  rw [P9];exact c1
theorem InC.reads {w:World} {A:Option Addr} {ks:List Int} (h:InC w A ks):Reads w w.heap.size 1 A ks.length (ks.map (Value.int .i64)):=by
 refine ⟨by simp,fun hn=>?_⟩;obtain ⟨ad,e,hlt,_⟩:=h 0 hn;refine ⟨ad,e,hlt,fun j u hu=>?_⟩;rw [List.getElem?_map,Option.map_eq_some_iff] at hu;obtain ⟨x,hx,rfl⟩:=hu;obtain ⟨hj,rfl⟩:=List.getElem?_eq_some_iff.1 hx;obtain ⟨ad2,e2,_,c0⟩:=h j hj;obtain rfl:ad=ad2:=by rw [e] at e2;exact Option.some.inj e2
 exact c0
theorem MH {A:Option Addr} {n c:Nat} {xs:List Value} {w:World} (hr:Reads w w.heap.size 2 A n xs) (hone:∀u∈xs,u.oneCell'=true) (hb:n≤1000000) :
  Calls Tryz.prog 144 #[.slice A n c] w fun e w'=>∃v',e=.returned v'∧w'.ownsRow w.heap.size 158 2 v' n xs∧Below w.heap.size w w':=by
 obtain ⟨i0,hi,hz0,hz1,hz2⟩:=dK (show (Tryz.prog.info? 158).map (fun i=>(i.zero,i.size,i.bytes))=some (some (.agg #[.string ByteArray.empty,.int .i64 0]),2,24) from by kernel_rfl);have q:∀(w:World) (a:Option Addr) (n c n' c':Nat),(binOp .eql 25 (.slice a n c) (.slice none n' c')).run Tryz.prog w=.ok (.bool a.isNone) w:=fun w a n c n' c'=>Lib.run_eql_slice_nil w _ _ a n c n' c' Tryz.underlying25
 cases A with
 | none =>
  have h0:n=0:=by
   rcases Nat.eq_zero_or_pos n with h0 | h0
   ·exact h0
   ·obtain ⟨ad,h,_⟩:=hr.2 h0
    cases h
  subst h0;have hx:xs=[]:=List.eq_nil_of_length_eq_zero (by have:=hr.1;omega);subst hx;clear hr hone;go_enter Tryz.func144,Tryz.ntmps144;go_wp2;go_ret;exact ⟨_,rfl,World.ownsRow_nil _ _ _ _,Below.refl _ _⟩
 | some ad =>
  have hr':=hr.alloc (Nat.le_refl _) (.cells #[] 158);have Hone:=hide hone;have Hr:=hide (hr'.more (Nat.le_succ _));clear hone hr' hr;go_enter Tryz.func144,Tryz.ntmps144;go_wp2_with (at_builtin;refine aA _ rfl (.tmp 5) (.tmp 6) _ rfl w.heap.size 158 i0 (.agg #[.string ByteArray.empty,.int .i64 0]) 2 24 Tryz.underlying25 hi hz0 hz1 hz2 rfl (by decide) _ 0 [] rfl (World.ownsRow_made w #[] 0 (Nat.le_refl _) (Nat.zero_le _) (by simp)) (w.heap.size+1) (some ad) n c xs rfl (by simpa using Hr.out) Hone.out (by unfold maxLen;omega) (by omega) (by simp) ?_;intro v' w1 hown hgrow _);rw [Nat.zero_add,List.nil_append] at hown;go_wp2;go_ret;refine ⟨v',rfl,hown,?_⟩;exact ((Below.refl _ w).alloc (Nat.le_refl _) _).grown hgrow (by simp) (by rintro k ⟨⟩;exact Nat.le_refl _)
theorem LY {A:Option Addr} {n c:Nat} {xs:List Value} {w:World} (hr:Reads w w.heap.size 1 A n xs) (hone:∀u∈xs,u.oneCell'=true) (hb:n≤1000000) :
  Calls Tryz.prog 145 #[.slice A n c] w fun e w'=>∃v',e=.returned v'∧w'.ownsRow w.heap.size 3 1 v' n xs∧Below w.heap.size w w':=by
 obtain ⟨i0,hi,hz0,hz1,hz2⟩:=dK (show (Tryz.prog.info? 3).map (fun i=>(i.zero,i.size,i.bytes))=some (some (.int .i64 0),1,8) from by kernel_rfl);have q:∀(w:World) (a:Option Addr) (n c n' c':Nat),(binOp .eql 26 (.slice a n c) (.slice none n' c')).run Tryz.prog w=.ok (.bool a.isNone) w:=fun w a n c n' c'=>Lib.run_eql_slice_nil w _ _ a n c n' c' Tryz.underlying26
 cases A with
 | none =>
  have h0:n=0:=by
   rcases Nat.eq_zero_or_pos n with h0 | h0
   ·exact h0
   ·obtain ⟨ad,h,_⟩:=hr.2 h0
    cases h
  subst h0;have hx:xs=[]:=List.eq_nil_of_length_eq_zero (by have:=hr.1;omega);subst hx;clear hr hone;go_enter Tryz.func145,Tryz.ntmps145;go_wp2;go_ret;exact ⟨_,rfl,World.ownsRow_nil _ _ _ _,Below.refl _ _⟩
 | some ad =>
  have hr':=hr.alloc (Nat.le_refl _) (.cells #[] 3);have Hone:=hide hone;have Hr:=hide (hr'.more (Nat.le_succ _));clear hone hr' hr;go_enter Tryz.func145,Tryz.ntmps145;go_wp2_with (at_builtin;refine aA _ rfl (.tmp 5) (.tmp 6) _ rfl w.heap.size 3 i0 (.int .i64 0) 1 8 Tryz.underlying26 hi hz0 hz1 hz2 rfl (by decide) _ 0 [] rfl (World.ownsRow_made w #[] 0 (Nat.le_refl _) (Nat.zero_le _) (by simp)) (w.heap.size+1) (some ad) n c xs rfl (by simpa using Hr.out) Hone.out (by unfold maxLen;omega) (by omega) (by simp) ?_;intro v' w1 hown hgrow _);rw [Nat.zero_add,List.nil_append] at hown;go_wp2;go_ret;refine ⟨v',rfl,hown,?_⟩;exact ((Below.refl _ w).alloc (Nat.le_refl _) _).grown hgrow (by simp) (by rintro k ⟨⟩;exact Nat.le_refl _)
theorem OH (pre mid post vs:List Value) (h:mid.length=vs.length):wrA (pre++mid++post).toArray pre.length vs=(pre++vs++post).toArray:=by
 induction vs generalizing pre mid with
 | nil =>
  have:mid=[]:=List.eq_nil_of_length_eq_zero h;subst this;simp [wrA]
 | cons v r ih =>
  match mid,h with
  | p :: m,h =>
   unfold wrA;rw [List.setIfInBounds_toArray,List.append_assoc,List.set_append_right _ _ (Nat.le_refl _),Nat.sub_self,List.cons_append,List.set_cons_zero];have h2:=ih (pre++[v]) m (by simpa using h);rw [List.length_append,List.length_singleton] at h2;rw [show pre++v :: (m++post)=pre++[v]++m++post by simp,h2];simp
theorem wpList_skip {w w':World} {ops:Array Oper} {rest:List Oper} {op:Oper} {a:Act} {Q:Exit→Act→World→Prop} (hgd:op.guard=none) (hr:(execOp a.eval op).run Tryz.prog w=.ok .skip w')
  (h:wpList Tryz.prog ops Q rest (a.put op.dst undef) w'):wpList Tryz.prog ops Q (op :: rest) a w :=
 wpList_plain hgd fun _ hK=>by
  unfold Oper.wp;rw [hr];exact hK _ _ h
theorem vI.eight {w:World} {g:Nat} {ls:List (List (List UInt8))} (h:vI w g ls) (hs:∀l∈ls,l.length≤1000000):xh w g ls :=
 ⟨h.1,hs,fun i l hl=>by
  obtain ⟨hi,rfl⟩:=List.getElem?_eq_some_iff.1 hl;obtain ⟨A,c,h1,h2,_⟩:=h.2.2 i hi
  exact ⟨A,c,h1,h2⟩⟩
theorem zy {w:World} {b o:Nat} {t:TypeId} {cs:Array Value} {n:Nat} (h:Blk w b t cs) (hn:o+n≤cs.size):w.there b o n:=fun j hj=>by
 rw [h.cell (o+j),Array.getElem?_eq_getElem (by omega)];exact ⟨rfl,h.frozen (o+j)⟩
theorem jY {w:World} {b b':Nat} {e:TypeId} {size n:Nat} {v:Value} {xs:List Value} (h:w.ownsRow b e size v n xs) (hb:b'≤b):w.ownsRow b' e size v n xs:=by
 refine ⟨h.1,?_⟩;rcases h.2 with h0 | ⟨g,cap,cur,h1,h2,h3⟩
 ·exact .inl h0
 ·exact .inr ⟨g,cap,cur,h1,Nat.le_trans hb h2,h3⟩
theorem lI {w:World} {b:Nat} {e:TypeId} {size n:Nat} {v:Value} {xs:List Value} (h:w.ownsRow b e size v n xs) {p:Addr} (hp:p.block<b) (u:Value):(w.setCell p u).ownsRow b e size v n xs:=by
 have hg:w.grownBy (w.setCell p u) (some p.block):=ag (aj w _) (.inl rfl) u;refine h.kept hg ?_
 cases ev:v.ownBlock with
 | none=>exact .inl rfl
 | some i =>
  right;intro e2;have:=(h.lt i ev).1;cases e2
  omega
theorem iY {b g:Nat} {e:TypeId} {size n:Nat} {v:Value} {xs:List Value} (hg:g<b):∀(vs:List Value) (o:Nat) {w:World},w.ownsRow b e size v n xs→(w.setCells g o vs).ownsRow b e size v n xs
 | [],_,_,h=>h
 | u :: r,o,_,h=>iY hg r (o+1) (lI h (p:=⟨g,o,none⟩) hg u)
theorem I1:(Tryz.prog.info? 24).map (·.size)=some 8:=by kernel_rfl
@[go_sem] theorem Ru (v0 v1 v2 v3 v4 v5 v6 v7 v8 v9 v10 v11 v12 v13 v14 v15 v16 v17 v18 v19 v20 v21 v22:Value) (w:World):(Instr.field 30 (.agg #[v0,v1,v2,v3,v4,v5,v6,v7,v8,v9,v10,v11,v12,v13,v14,v15,v16,v17,v18,v19,v20,v21,v22]) 3).run Tryz.prog w=.ok (.agg #[v3,v4,v5,v6,v7,v8,v9,v10]) w:=by kernel_rfl
def nz (n:Nat) (o:fP):Prop:=∀ps k,o=some (ps,k)→k≠0∧ps.length≤n∧∀p∈ps,p.length≤1000
theorem je (b:Bool) {s:List UInt8} {k:Int} (hk:k≠0) (hs:s.length≤1000):nz 2 (unl b s k):=fun ps k2 h=>by
 cases b with
 | true=>cases h
 | false =>
  cases h
  exact ⟨hk,by simp,fun p hp=>by simp only [List.mem_singleton] at hp;subst hp;exact hs⟩
theorem Ae (ls:List (List (List UInt8))):nz 2 (prR (prW ls)):=fun ps k h=>by
 rcases eD (prW ls) with hp | ⟨⟨i,z⟩,hp⟩
 ·rw [hp] at h;cases h
 ·rw [hp] at h
  cases h
  refine ⟨(sD hp).1,by simp,fun p hq=>?_⟩;simp only [List.mem_cons,List.mem_nil_iff,or_false] at hq;rcases hq with rfl | rfl
  ·decide
  ·exact Nat.le_trans (pX i) (by decide)
theorem sI (gs:List (List UInt8 × Int)) (al:List (List UInt8)) (lim:Int):nz 2 (bN (aV gs al lim)):=fun ps k h=>by
 rcases eD (aV gs al lim) with hp | ⟨⟨s,z⟩,hp⟩
 ·rw [hp] at h;cases h
 ·rw [hp] at h
  cases h
  have h2:=uz hp;refine ⟨h2.1,by simp,fun p hq=>?_⟩;simp only [List.mem_cons,List.mem_nil_iff,or_false] at hq;rcases hq with rfl | rfl
  ·decide
  ·exact Nat.le_trans h2.2 (by decide)
theorem Jv (ks:List Int):nz 2 (fG ks):=fun ps k h=>by
 unfold fG at h
 split at h
 ·cases h
 ·rename_i hz
  cases h
  exact ⟨hz,by simp,fun p hp=>by simp only [List.mem_singleton] at hp;subst hp;decide⟩
theorem qj:∀(l:List fP),(∀o∈l,nz 2 o)→nz 2 (dD l)
 | [],_=>fun ps k h=>by cases h
 | none :: r,h=>qj r (fun o ho=>h o (List.mem_cons_of_mem _ ho))
 | some x :: r,h=>h (some x) (List.mem_cons_self ..)
theorem zX {o:fP} (h:nz 2 o):nz 3 (inC o):=fun ps k e=>by
 cases o with
 | none=>cases e
 | some x =>
  obtain ⟨qs,z⟩:=x;cases e
  obtain ⟨h1,h2,h3⟩:=h qs z rfl;refine ⟨h1,by simp only [List.length_cons];omega,fun p hp=>?_⟩;rcases List.mem_cons.1 hp with rfl | hp
  ·decide
  ·exact h3 p hp
theorem OQ (sv:Bool) (sw cm us:List UInt8) (ls:List (List (List UInt8))) (own lim peer q0 q1 q2:Int) (al:List (List UInt8)) (gr:List (List UInt8 × Int)) (ky:List Int):nz 3 (Et sv sw cm us ls own lim peer q0 q1 q2 al gr ky):=by
 unfold Et
 split
 ·refine zX (qj _ fun o ho=>?_)
  simp only [List.mem_cons,List.not_mem_nil,or_false] at ho;rcases ho with rfl | rfl | rfl | rfl
  ·exact je _ (by decide) (by decide)
  ·exact Ae _
  ·exact je _ (by decide) (by decide)
  ·exact sI _ _ _
 ·refine zX (qj _ fun o ho=>?_)
  simp only [List.mem_cons,List.not_mem_nil,or_false] at ho;rcases ho with rfl | rfl | rfl | rfl | rfl | rfl | rfl
  ·exact je _ (by decide) (by decide)
  ·exact Ae _
  ·exact je _ (by decide) (by decide)
  ·exact je _ (by decide) (by decide)
  ·exact Jv _
  ·exact sI _ _ _
  ·exact je _ (by decide) (by decide)
theorem MZ {w w':World} {lo:Nat} {A:Option Addr} {ks:List Int} (h:InC w A ks) (ha:∀ad,A=some ad→lo≤ad.block) (hs:w.heap.size≤w'.heap.size) (hk:∀p:Addr,lo≤p.block→p.block<w.heap.size→w'.cell? p=w.cell? p):InC w' A ks:=fun k hk2=>by
 obtain ⟨ad,e,h1,h2⟩:=h k hk2;exact ⟨ad,e,Nat.lt_of_lt_of_le h1 hs,(hk (ad.add k) (by rw [ax];exact ha ad e) (by rw [ax];exact h1)).trans h2⟩
section
variable {w : World}
theorem J9 (hM:fC w) (host:Int):Calls Tryz.prog 37 #[.bool false,.int .i64 host] w (fun e w'=>∃B0 m0 d0 B1 m1 d1 B2 m2 d2 B3 m3 d3 B4 m4 d4 B5 m5 d5 B6 m6 d6 B7 m7 d7 B8 d8 B9 d9,e=.returned (.agg #[.bool false,.string ⟨#[112,108,97,105,110]⟩,.string ⟨#[]⟩,.slice B0 m0 d0,.slice B1 m1 d1,.slice B2 m2 d2,.slice B3 m3 d3,.slice B4 m4 d4,.slice B5 m5 d5,.slice B6 m6 d6,.slice B7 m7 d7,.slice B8 1 d8,.int .i64 0,.slice none 0 0,.int .i64 0,.int .i64 host,.string ⟨#[97,110,110]⟩,.slice B9 1 d9,.bool true,.bool false,.int .u32 2048,.int .u32 3072,.int .u32 8192])∧CfM w' [112,108,97,105,110] [] [97,110,110] [.slice B0 m0 d0,.slice B1 m1 d1,.slice B2 m2 d2,.slice B3 m3 d3,.slice B4 m4 d4,.slice B5 m5 d5,.slice B6 m6 d6,.slice B7 m7 d7] fJ B8 d8 [[115,115,104,45,101,100,50,53,53,49,57]] none [] B9 [8]∧(∀V:World,w'.heap.size≤V.heap.size→(∀p:Addr,w.heap.size≤p.block→p.block<w'.heap.size→V.cell? p=w'.cell? p)→CfM V [112,108,97,105,110] [] [97,110,110] [.slice B0 m0 d0,.slice B1 m1 d1,.slice B2 m2 d2,.slice B3 m3 d3,.slice B4 m4 d4,.slice B5 m5 d5,.slice B6 m6 d6,.slice B7 m7 d7] fJ B8 d8 [[115,115,104,45,101,100,50,53,53,49,57]] none [] B9 [8])∧Below w.heap.size w w'):=by
 obtain ⟨W0,hW0⟩:∃W0,W0=w.alloc (.cells mY 30):=⟨_,rfl⟩
 have hb0:Below w.heap.size w W0:=by rw [hW0];exact aa
 have hX0:Blk W0 w.heap.size 30 mY:=by rw [hW0];exact Blk.new w _ _
 have HP:=hide (ES (hM.below hb0));have HX:=hide (And.intro hb0 hX0);have hlt0:=hX0.lt;clear hb0 hX0 hM;go_enter Tryz.func37,Tryz.ntmps37;go_upto_region 1 with fail;unfold mY at hW0;rw [←hW0];clear hW0;refine wp_region_lit ?_;refine aW (v:=.bool false) (w':=W0) rfl rfl ?_
 try simp only [Act.put,List.setIfInBounds_toArray,List.set_cons_zero,List.set_cons_succ]
 refine bZ (f:=84) (args:=#[]) rfl (by go_simp) HP.out ?_;rintro e w1 ⟨B0,m0,d0,B1,m1,d1,B2,m2,d2,B3,m3,d3,B4,m4,d4,B5,m5,d5,B6,m6,d6,B7,m7,d7,rfl,hall,hb1⟩;refine ⟨_,rfl,?_⟩
 try simp only [Act.put,List.setIfInBounds_toArray,List.set_cons_zero,List.set_cons_succ]
 obtain ⟨w2,hw2⟩:∃w2,w2=w1.alloc (.cells #[.string ⟨#[115,115,104,45,101,100,50,53,53,49,57]⟩] 9):=⟨_,rfl⟩
 have hN2:bG w1.heap.size w2 (.slice (some ⟨w1.heap.size,0,none⟩) 1 1) [[115,115,104,45,101,100,50,53,53,49,57]]:=by rw [hw2];exact ku [[115,115,104,45,101,100,50,53,53,49,57]]
 have hb2:Below w1.heap.size w1 w2:=by rw [hw2];exact iP _
 refine aW (v:=.slice (some ⟨w1.heap.size,0,none⟩) 1 1) (w':=w2) rfl (by rw [hw2];go_simp) ?_;clear hw2
 obtain ⟨gb,hgb⟩:∃gb,gb=w1.heap.size:=⟨_,rfl⟩
 rw [←hgb] at hN2;simp only [←hgb];have Hgb:=hide hgb;clear hgb
 try simp only [Act.put,List.setIfInBounds_toArray,List.set_cons_zero,List.set_cons_succ]
 refine aW (v:=.agg #[.bool false,.string ⟨#[112,108,97,105,110]⟩,.string ⟨#[]⟩,.slice B0 m0 d0,.slice B1 m1 d1,.slice B2 m2 d2,.slice B3 m3 d3,.slice B4 m4 d4,.slice B5 m5 d5,.slice B6 m6 d6,.slice B7 m7 d7,.slice (some ⟨gb,0,none⟩) 1 1,.int .i64 0,.slice none 0 0,.int .i64 0,.int .i64 0,.string ⟨#[]⟩,.slice none 0 0,.bool false,.bool false,.int .u32 0,.int .u32 0,.int .u32 0]) (w':=w2) rfl (Rf _ rfl _ rfl rfl rfl rfl _) ?_
 try simp only [Act.put,List.setIfInBounds_toArray,List.set_cons_zero,List.set_cons_succ]
 obtain ⟨w3,hw3⟩:∃w3,w3=w2.alloc (.cells mY 30):=⟨_,rfl⟩
 have hX3:Blk w3 w2.heap.size 30 mY:=by rw [hw3];exact Blk.new w2 _ _
 have hb3:Below w2.heap.size w2 w3:=by rw [hw3];exact iP _
 refine aW (v:=.pointer (some ⟨w2.heap.size,0,none⟩)) (w':=w3) rfl (by rw [hw3];exact Q7 _ rfl _ _) ?_;clear hw3;have hsz2:=hb2.size;have hsz1:=hb1.size
 obtain ⟨b5,hb5⟩:∃b5,b5=w2.heap.size:=⟨_,rfl⟩
 rw [←hb5] at hX3;simp only [←hb5]
 try simp only [Act.put,List.setIfInBounds_toArray,List.set_cons_zero,List.set_cons_succ]
 refine gL rfl (.tmp 5) (.tmp 9) rfl (by rfl) (by rfl) hX3 rfl rfl (by simp [Value.oneCell']) ?_
 have hX4:Blk (w3.setCells b5 0 [.bool false,.string ⟨#[112,108,97,105,110]⟩,.string ⟨#[]⟩,.slice B0 m0 d0,.slice B1 m1 d1,.slice B2 m2 d2,.slice B3 m3 d3,.slice B4 m4 d4,.slice B5 m5 d5,.slice B6 m6 d6,.slice B7 m7 d7,.slice (some ⟨gb,0,none⟩) 1 1,.int .i64 0,.slice none 0 0,.int .i64 0,.int .i64 0,.string ⟨#[]⟩,.slice none 0 0,.bool false,.bool false,.int .u32 0,.int .u32 0,.int .u32 0]) b5 30 #[.bool false,.string ⟨#[112,108,97,105,110]⟩,.string ⟨#[]⟩,.slice B0 m0 d0,.slice B1 m1 d1,.slice B2 m2 d2,.slice B3 m3 d3,.slice B4 m4 d4,.slice B5 m5 d5,.slice B6 m6 d6,.slice B7 m7 d7,.slice (some ⟨gb,0,none⟩) 1 1,.int .i64 0,.slice none 0 0,.int .i64 0,.int .i64 0,.string ⟨#[]⟩,.slice none 0 0,.bool false,.bool false,.int .u32 0,.int .u32 0,.int .u32 0]:=by
  have h9:=Blk.setCells [.bool false,.string ⟨#[112,108,97,105,110]⟩,.string ⟨#[]⟩,.slice B0 m0 d0,.slice B1 m1 d1,.slice B2 m2 d2,.slice B3 m3 d3,.slice B4 m4 d4,.slice B5 m5 d5,.slice B6 m6 d6,.slice B7 m7 d7,.slice (some ⟨gb,0,none⟩) 1 1,.int .i64 0,.slice none 0 0,.int .i64 0,.int .i64 0,.string ⟨#[]⟩,.slice none 0 0,.bool false,.bool false,.int .u32 0,.int .u32 0,.int .u32 0] 0 hX3;rw [yl (by rfl)] at h9;exact h9
 have hb4:Below w2.heap.size w2 (w3.setCells b5 0 [.bool false,.string ⟨#[112,108,97,105,110]⟩,.string ⟨#[]⟩,.slice B0 m0 d0,.slice B1 m1 d1,.slice B2 m2 d2,.slice B3 m3 d3,.slice B4 m4 d4,.slice B5 m5 d5,.slice B6 m6 d6,.slice B7 m7 d7,.slice (some ⟨gb,0,none⟩) 1 1,.int .i64 0,.slice none 0 0,.int .i64 0,.int .i64 0,.string ⟨#[]⟩,.slice none 0 0,.bool false,.bool false,.int .u32 0,.int .u32 0,.int .u32 0]):=below_setCells (by omega) [.bool false,.string ⟨#[112,108,97,105,110]⟩,.string ⟨#[]⟩,.slice B0 m0 d0,.slice B1 m1 d1,.slice B2 m2 d2,.slice B3 m3 d3,.slice B4 m4 d4,.slice B5 m5 d5,.slice B6 m6 d6,.slice B7 m7 d7,.slice (some ⟨gb,0,none⟩) 1 1,.int .i64 0,.slice none 0 0,.int .i64 0,.int .i64 0,.string ⟨#[]⟩,.slice none 0 0,.bool false,.bool false,.int .u32 0,.int .u32 0,.int .u32 0] 0 hb3;generalize w3.setCells b5 0 [.bool false,.string ⟨#[112,108,97,105,110]⟩,.string ⟨#[]⟩,.slice B0 m0 d0,.slice B1 m1 d1,.slice B2 m2 d2,.slice B3 m3 d3,.slice B4 m4 d4,.slice B5 m5 d5,.slice B6 m6 d6,.slice B7 m7 d7,.slice (some ⟨gb,0,none⟩) 1 1,.int .i64 0,.slice none 0 0,.int .i64 0,.int .i64 0,.string ⟨#[]⟩,.slice none 0 0,.bool false,.bool false,.int .u32 0,.int .u32 0,.int .u32 0]=w4 at hX4 hb4 ⊢
 try simp only [Act.put,List.setIfInBounds_toArray,List.set_cons_zero,List.set_cons_succ]
 have c15:=hX4.cell 15;have f15:=hX4.frozen 15;have c16:=hX4.cell 16;have f16:=hX4.frozen 16;have c17:=hX4.cell 17;have f17:=hX4.frozen 17;have c18:=hX4.cell 18;have f18:=hX4.frozen 18;have c20:=hX4.cell 20;have f20:=hX4.frozen 20;have c21:=hX4.cell 21;have f21:=hX4.frozen 21;have c22:=hX4.cell 22;have f22:=hX4.frozen 22;simp only [List.getElem?_toArray,List.getElem?_cons_zero,List.getElem?_cons_succ] at c15 c16 c17 c18 c20 c21 c22;have hlt4:=hX4.lt;have H4:=hide (And.intro hX4 (And.intro hb4 (And.intro hN2 (And.intro hb2 (And.intro hall hb1)))));have hb5e:=hide hb5;clear hX4 hb4 hN2 hb2 hall hb1 hX3 hb3 hb5;go_upto_region 6 with fail;have hs2:=H4.out.2.2.2.1.size;have hs1:=H4.out.2.2.2.2.2.size;have hs0:=HX.out.1.size;have h5e:=hb5e.out
 have hX6:Blk (((((((((w4.setCell ⟨b5,15,none⟩ (.int .i64 host)).setCell ⟨b5,16,none⟩ (.string ⟨#[97,110,110]⟩)).setCell ⟨b5,17,none⟩ (.slice (some ⟨w4.heap.size,0,none⟩) 1 1)).setCell ⟨b5,18,none⟩ (.bool true)).setCell ⟨b5,20,none⟩ (.int .u32 2048)).setCell ⟨b5,21,none⟩ (.int .u32 3072)).setCell ⟨b5,22,none⟩ (.int .u32 8192)).alloc (.cells #[.int .i64 8] 3))) b5 30 #[.bool false,.string ⟨#[112,108,97,105,110]⟩,.string ⟨#[]⟩,.slice B0 m0 d0,.slice B1 m1 d1,.slice B2 m2 d2,.slice B3 m3 d3,.slice B4 m4 d4,.slice B5 m5 d5,.slice B6 m6 d6,.slice B7 m7 d7,.slice (some ⟨gb,0,none⟩) 1 1,.int .i64 0,.slice none 0 0,.int .i64 0,.int .i64 host,.string ⟨#[97,110,110]⟩,.slice (some ⟨w4.heap.size,0,none⟩) 1 1,.bool true,.bool false,.int .u32 2048,.int .u32 3072,.int .u32 8192]:=by
  have h9:=((((((((H4.out.1.set_ 15 (.int .i64 host)).set_ 16 (.string ⟨#[97,110,110]⟩)).set_ 17 (.slice (some ⟨w4.heap.size,0,none⟩) 1 1)).set_ 18 (.bool true)).set_ 20 (.int .u32 2048)).set_ 21 (.int .u32 3072)).set_ 22 (.int .u32 8192)).alloc (.cells #[.int .i64 8] 3))
  simpa using h9
 have hB2:Below w2.heap.size w2 (((((((((w4.setCell ⟨b5,15,none⟩ (.int .i64 host)).setCell ⟨b5,16,none⟩ (.string ⟨#[97,110,110]⟩)).setCell ⟨b5,17,none⟩ (.slice (some ⟨w4.heap.size,0,none⟩) 1 1)).setCell ⟨b5,18,none⟩ (.bool true)).setCell ⟨b5,20,none⟩ (.int .u32 2048)).setCell ⟨b5,21,none⟩ (.int .u32 3072)).setCell ⟨b5,22,none⟩ (.int .u32 8192)).alloc (.cells #[.int .i64 8] 3))):=(((((((((H4.out.2.1).setCell (p:=⟨b5,15,none⟩) (by show _≤b5;omega) _).setCell (p:=⟨b5,16,none⟩) (by show _≤b5;omega) _).setCell (p:=⟨b5,17,none⟩) (by show _≤b5;omega) _).setCell (p:=⟨b5,18,none⟩) (by show _≤b5;omega) _).setCell (p:=⟨b5,20,none⟩) (by show _≤b5;omega) _).setCell (p:=⟨b5,21,none⟩) (by show _≤b5;omega) _).setCell (p:=⟨b5,22,none⟩) (by show _≤b5;omega) _).alloc (by simp only [World.size_setCell];omega) _)
 have hB1:Below w1.heap.size w1 (((((((((w4.setCell ⟨b5,15,none⟩ (.int .i64 host)).setCell ⟨b5,16,none⟩ (.string ⟨#[97,110,110]⟩)).setCell ⟨b5,17,none⟩ (.slice (some ⟨w4.heap.size,0,none⟩) 1 1)).setCell ⟨b5,18,none⟩ (.bool true)).setCell ⟨b5,20,none⟩ (.int .u32 2048)).setCell ⟨b5,21,none⟩ (.int .u32 3072)).setCell ⟨b5,22,none⟩ (.int .u32 8192)).alloc (.cells #[.int .i64 8] 3))):=(((((((((H4.out.2.2.2.1.trans (H4.out.2.1.mono hs2)).setCell (p:=⟨b5,15,none⟩) (by show _≤b5;omega) _).setCell (p:=⟨b5,16,none⟩) (by show _≤b5;omega) _).setCell (p:=⟨b5,17,none⟩) (by show _≤b5;omega) _).setCell (p:=⟨b5,18,none⟩) (by show _≤b5;omega) _).setCell (p:=⟨b5,20,none⟩) (by show _≤b5;omega) _).setCell (p:=⟨b5,21,none⟩) (by show _≤b5;omega) _).setCell (p:=⟨b5,22,none⟩) (by show _≤b5;omega) _).alloc (by simp only [World.size_setCell];omega) _)
 have hB0:Below W0.heap.size W0 (((((((((w4.setCell ⟨b5,15,none⟩ (.int .i64 host)).setCell ⟨b5,16,none⟩ (.string ⟨#[97,110,110]⟩)).setCell ⟨b5,17,none⟩ (.slice (some ⟨w4.heap.size,0,none⟩) 1 1)).setCell ⟨b5,18,none⟩ (.bool true)).setCell ⟨b5,20,none⟩ (.int .u32 2048)).setCell ⟨b5,21,none⟩ (.int .u32 3072)).setCell ⟨b5,22,none⟩ (.int .u32 8192)).alloc (.cells #[.int .i64 8] 3))):=(((((((((H4.out.2.2.2.2.2.trans ((H4.out.2.2.2.1.trans (H4.out.2.1.mono hs2)).mono hs1)).setCell (p:=⟨b5,15,none⟩) (by show _≤b5;omega) _).setCell (p:=⟨b5,16,none⟩) (by show _≤b5;omega) _).setCell (p:=⟨b5,17,none⟩) (by show _≤b5;omega) _).setCell (p:=⟨b5,18,none⟩) (by show _≤b5;omega) _).setCell (p:=⟨b5,20,none⟩) (by show _≤b5;omega) _).setCell (p:=⟨b5,21,none⟩) (by show _≤b5;omega) _).setCell (p:=⟨b5,22,none⟩) (by show _≤b5;omega) _).alloc (by simp only [World.size_setCell];omega) _)
 have hG6:Blk (((((((((w4.setCell ⟨b5,15,none⟩ (.int .i64 host)).setCell ⟨b5,16,none⟩ (.string ⟨#[97,110,110]⟩)).setCell ⟨b5,17,none⟩ (.slice (some ⟨w4.heap.size,0,none⟩) 1 1)).setCell ⟨b5,18,none⟩ (.bool true)).setCell ⟨b5,20,none⟩ (.int .u32 2048)).setCell ⟨b5,21,none⟩ (.int .u32 3072)).setCell ⟨b5,22,none⟩ (.int .u32 8192)).alloc (.cells #[.int .i64 8] 3))) w4.heap.size 3 #[.int .i64 8]:=by
  have h9:=Blk.new (((((((w4.setCell ⟨b5,15,none⟩ (.int .i64 host)).setCell ⟨b5,16,none⟩ (.string ⟨#[97,110,110]⟩)).setCell ⟨b5,17,none⟩ (.slice (some ⟨w4.heap.size,0,none⟩) 1 1)).setCell ⟨b5,18,none⟩ (.bool true)).setCell ⟨b5,20,none⟩ (.int .u32 2048)).setCell ⟨b5,21,none⟩ (.int .u32 3072)).setCell ⟨b5,22,none⟩ (.int .u32 8192)) 3 #[.int .i64 8];simpa only [World.size_setCell] using h9
 have hR6:=HX.out.2.below hB0 hlt0;have hg4:w.heap.size≠w4.heap.size:=by omega
 have hg5:w.heap.size≤w4.heap.size:=by omega
 generalize ((((((((w4.setCell ⟨b5,15,none⟩ (.int .i64 host)).setCell ⟨b5,16,none⟩ (.string ⟨#[97,110,110]⟩)).setCell ⟨b5,17,none⟩ (.slice (some ⟨w4.heap.size,0,none⟩) 1 1)).setCell ⟨b5,18,none⟩ (.bool true)).setCell ⟨b5,20,none⟩ (.int .u32 2048)).setCell ⟨b5,21,none⟩ (.int .u32 3072)).setCell ⟨b5,22,none⟩ (.int .u32 8192)).alloc (.cells #[.int .i64 8] 3))=w6 at hX6 hB2 hB1 hB0 hG6 hR6 ⊢;generalize w4.heap.size=g2 at hX6 hG6 hg4 hg5 ⊢;have hone:(#[.bool false,.string ⟨#[112,108,97,105,110]⟩,.string ⟨#[]⟩,.slice B0 m0 d0,.slice B1 m1 d1,.slice B2 m2 d2,.slice B3 m3 d3,.slice B4 m4 d4,.slice B5 m5 d5,.slice B6 m6 d6,.slice B7 m7 d7,.slice (some ⟨gb,0,none⟩) 1 1,.int .i64 0,.slice none 0 0,.int .i64 0,.int .i64 host,.string ⟨#[97,110,110]⟩,.slice (some ⟨g2,0,none⟩) 1 1,.bool true,.bool false,.int .u32 2048,.int .u32 3072,.int .u32 8192]:Array Value).all (·.oneCell')=true:=by simp [Value.oneCell']
 obtain ⟨cF,hcF⟩:∃c:Array Value,c=#[.bool false,.string ⟨#[112,108,97,105,110]⟩,.string ⟨#[]⟩,.slice B0 m0 d0,.slice B1 m1 d1,.slice B2 m2 d2,.slice B3 m3 d3,.slice B4 m4 d4,.slice B5 m5 d5,.slice B6 m6 d6,.slice B7 m7 d7,.slice (some ⟨gb,0,none⟩) 1 1,.int .i64 0,.slice none 0 0,.int .i64 0,.int .i64 host,.string ⟨#[97,110,110]⟩,.slice (some ⟨g2,0,none⟩) 1 1,.bool true,.bool false,.int .u32 2048,.int .u32 3072,.int .u32 8192]:=⟨_,rfl⟩
 have hlF:cF.toList.length=23:=by rw [hcF];rfl
 rw [←hcF] at hX6 hone;refine wp_region_lit ?_;refine bI rfl (.tmp 5) rfl (by rfl) hX6 hlF ?_
 try simp only [Act.put,List.setIfInBounds_toArray,List.set_cons_zero,List.set_cons_succ]
 refine gL rfl (.tmp 4) (.tmp 26) rfl (by rfl) (by rfl) hR6 rfl hlF hone ?_
 have hR7:Blk (w6.setCells w.heap.size 0 cF.toList) w.heap.size 30 cF:=by
  have h9:=Blk.setCells cF.toList 0 hR6;rw [yl (by rw [hlF];rfl),Array.toArray_toList] at h9;exact h9
 have hG7:=Blk.setCells_far (Ne.symm hg4) cF.toList 0 hG6;have hb7:Below w.heap.size w (w6.setCells w.heap.size 0 cF.toList):=below_setCells (Nat.le_refl _) _ _ (HX.out.1.trans (hB0.mono hs0));have hn7:∀(i:Nat) v l,([.slice B0 m0 d0,.slice B1 m1 d1,.slice B2 m2 d2,.slice B3 m3 d3,.slice B4 m4 d4,.slice B5 m5 d5,.slice B6 m6 d6,.slice B7 m7 d7]:List Value)[i]?=some v→fJ[i]?=some l→bG _ _ v l:=fun i v l h1 h2=>bG.setCells hlt0 cF.toList 0 ((H4.out.2.2.2.2.1 i v l h1 h2).belowW hB1)
 have ha7:=bG.setCells (b:=w.heap.size) (by have:=Hgb.out;omega) cF.toList 0 (H4.out.2.2.1.belowW hB2);generalize w6.setCells w.heap.size 0 cF.toList=w7 at hR7 hG7 hb7 hn7 ha7 ⊢;clear hX6 hB2 hB1 hB0 hG6 hR6 hone H4 HX c15 f15 c16 f16 c17 f17 c18 f18 c20 f20 c21 f21 c22 f22
 try simp only [Act.put,List.setIfInBounds_toArray,List.set_cons_zero,List.set_cons_succ]
 go_wp2_with fail;refine bodyPost_ret (oO rfl (by rfl) hR7 hlF) rfl ?_;subst hcF;exact ⟨B0,m0,d0,B1,m1,d1,B2,m2,d2,B3,m3,d3,B4,m4,d4,B5,m5,d5,B6,m6,d6,B7,m7,d7,some ⟨gb,0,none⟩,1,some ⟨g2,0,none⟩,1,rfl,⟨by decide,by decide,by decide,sj rfl hn7,ha7.txc.1,Nat.le_refl _,by decide,by decide,(fun k hk=>absurd hk (Nat.not_lt_zero _)),by decide,by decide,Gn hG7,by decide⟩,fun V hs hk=>⟨by decide,by decide,by decide,sj rfl (fun i v l h1 h2=>(hn7 i v l h1 h2).keepL (Nat.le_of_lt hlt0) hs hk),(ha7.keepL (by have:=Hgb.out;omega) hs hk).txc.1,Nat.le_refl _,by decide,by decide,(fun k hk=>absurd hk (Nat.not_lt_zero _)),by decide,by decide,MZ (Gn hG7) (fun ad e=>by cases e;exact hg5) hs hk,by decide⟩,hb7⟩
end
end Go.Proofs.YtnhekaepgpbijaaGreatDoor
