/- Several of my texts in one: CfCk, CfJ, CfX0, ErO. -/
import Derived.Test.YtnhekaepgpbijaaGreatDoorHCfI
set_option linter.unusedVariables false
set_option linter.unusedSimpArgs false
set_option maxHeartbeats 40000000
set_option maxRecDepth 100000
namespace Go.Proofs.YtnhekaepgpbijaaGreatDoor
open Go.RowKit Go.ChangeShapes Go.WideShapes Go.Sort
theorem inC_none {o:ErrO} (h:inC o=none):o=none:=by
 cases o with
 | none=>rfl
 | some x=>cases h
def errC (sv:Bool) (sw cm us:List UInt8) (ls:List (List (List UInt8))) (own lim peer q0 q1 q2:Int) (al:List (List UInt8)) (gr:List (List UInt8 × Int)) (ky:List Int):ErrO :=
 if sv=true then inC (fstE [unl (verL sw cm != []) [118,101,114,115,105,111,110] 1,prR (prW ls),unl (princL own) [111,119,110] 5,denyR (denyE gr al lim)]) else inC (fstE [unl (verL sw cm != []) [118,101,114,115,105,111,110] 1,prR (prW ls),unl (princL peer) [112,101,101,114] 5,unl (userL us) [117,115,101,114] 3,keyE ky,denyR (denyE [] al 1),unl (groupL q0 q1 q2) [119,105,115,104] 5])
section
variable {w : World}
theorem ccheck_any {sv ex ge:Bool} {sw cm us:List UInt8} {A0 A1 A2 A3 A4 A5 A6 A7 A8 A9 A10:Option Addr} {n0 n1 n2 n3 n4 n5 n6 n7 c0 c1 c2 c3 c4 c5 c6 c7 c8 c9 c10:Nat} {al:List (List UInt8)} {own lim peer q0 q1 q2:Int} {gr:List (List UInt8 × Int)} {ky:List Int} {ls:List (List (List UInt8))} (hM:MethV w) (hW:WordV w) (hC:CfM w sw cm us [.slice A0 n0 c0,.slice A1 n1 c1,.slice A2 n2 c2,.slice A3 n3 c3,.slice A4 n4 c4,.slice A5 n5 c5,.slice A6 n6 c6,.slice A7 n7 c7] ls A8 c8 al A9 gr A10 ky):Calls Tryz.prog 81 #[.agg #[.bool sv,.string (bs sw),.string (bs cm),.slice A0 n0 c0,.slice A1 n1 c1,.slice A2 n2 c2,.slice A3 n3 c3,.slice A4 n4 c4,.slice A5 n5 c5,.slice A6 n6 c6,.slice A7 n7 c7,.slice A8 al.length c8,.int .i64 own,.slice A9 gr.length c9,.int .i64 lim,.int .i64 peer,.string (bs us),.slice A10 ky.length c10,.bool ex,.bool ge,.int .u32 q0,.int .u32 q1,.int .u32 q2]] w (ErrR (errC sv sw cm us ls own lim peer q0 q1 q2 al gr ky) w):=by
 cases sv with
 | true=>exact check_s hM hW hC
 | false=>exact check_c hM hW hC
end
def AllW (w:World) (vs:List Value) (ls:List (List (List UInt8))):Prop:=vs.length=8∧ls.length=8∧∀(i:Nat) v l,vs[i]?=some v→ls[i]?=some l→Txc w v l∧l.length≤maxLen
theorem AllW.below {w w':World} {vs:List Value} {ls:List (List (List UInt8))} (h:AllW w vs ls) (hb:Below w.heap.size w w'):AllW w' vs ls :=
 ⟨h.1,h.2.1,fun i v l h1 h2=>⟨(h.2.2 i v l h1 h2).1.below hb,(h.2.2 i v l h1 h2).2⟩⟩
theorem AllW.allS {w:World} {vs:List Value} {ls:List (List (List UInt8))} (h:AllW w vs ls):AllS 0 w vs (ls.map bss):=by
 refine ⟨by rw [List.length_map,h.1,h.2.1],fun i v s h1 h2=>?_⟩
 rw [List.getElem?_map,Option.map_eq_some_iff] at h2
 obtain ⟨l,hl,rfl⟩:=h2
 have:=h.2.2 i v l h1 hl
 have hm:maxLen≤9223372036854775807:=by unfold maxLen;omega
 exact ⟨this.1.1,by rw [bss,List.length_map];omega⟩
structure CfW (w:World) (sw cm us:List UInt8) (vs:List Value) (ls:List (List (List UInt8))) (A8:Option Addr) (c8:Nat) (al:List (List UInt8)) (A9:Option Addr) (gr:List (List UInt8 × Int)) (A10:Option Addr) (ky:List Int):Prop where
 hl8:AllW w vs ls
 hal:Txs w (.slice A8 al.length c8) al
 alc:al.length≤c8
 all:al.length≤maxLen
 hgr:GrC w A9 gr
 grl:gr.length≤maxLen
 hky:InC w A10 ky
 kyl:ky.length≤maxLen
theorem CfW.below {w w':World} {sw cm us:List UInt8} {vs:List Value} {ls:List (List (List UInt8))} {A8:Option Addr} {c8:Nat} {al:List (List UInt8)} {A9:Option Addr} {gr:List (List UInt8 × Int)} {A10:Option Addr} {ky:List Int}
  (h:CfW w sw cm us vs ls A8 c8 al A9 gr A10 ky) (hb:Below w.heap.size w w'):CfW w' sw cm us vs ls A8 c8 al A9 gr A10 ky :=
 ⟨h.hl8.below hb,h.hal.below hb,h.alc,h.all,h.hgr.below hb,h.grl,h.hky.below hb,h.kyl⟩
def fewC (sw cm us:List UInt8) (ls:List (List (List UInt8))) (al:List (List UInt8)) (gr:List (List UInt8 × Int)) (ky:List Int):Bool :=
 fewLs (ls.map bss) && decide (al.length≤20) && decide (gr.length≤20) && decide (ky.length≤20) && decide (sw.length≤300) && decide (cm.length≤300) && decide (us.length≤300) && al.all (fun x=>decide (x.length≤300)) && gr.all (fun x=>decide (x.1.length≤300))
theorem fewLs_get {ls:List (List (List UInt8))} (h:fewLs (ls.map bss)=true):∀l∈ls,l.length≤20∧∀y∈l,y.length≤100:=by
 intro l hl
 unfold fewLs at h
 rw [List.all_eq_true] at h
 have h2:=h (bss l) (List.mem_map.2 ⟨l,hl,rfl⟩)
 unfold fewL at h2
 simp only [Bool.and_eq_true,decide_eq_true_eq,List.all_eq_true,bss,List.length_map] at h2
 exact ⟨h2.1,fun y hy=>h2.2 (bs y) (List.mem_map.2 ⟨y,hy,rfl⟩)⟩
theorem CfW.few {w:World} {sw cm us:List UInt8} {vs:List Value} {ls:List (List (List UInt8))} {A8:Option Addr} {c8:Nat} {al:List (List UInt8)} {A9:Option Addr} {gr:List (List UInt8 × Int)} {A10:Option Addr} {ky:List Int}
  (h:CfW w sw cm us vs ls A8 c8 al A9 gr A10 ky) (hf:fewC sw cm us ls al gr ky=true):CfM w sw cm us vs ls A8 c8 al A9 gr A10 ky:=by
 unfold fewC at hf
 simp only [Bool.and_eq_true,decide_eq_true_eq,List.all_eq_true] at hf
 obtain ⟨⟨⟨⟨⟨⟨⟨⟨h1,h2⟩,h3⟩,h4⟩,h5⟩,h6⟩,h7⟩,h8⟩,h9⟩:=hf
 have hl:=fewLs_get h1
 refine ⟨by omega,by omega,by omega,⟨h.hl8.1,h.hl8.2.1,fun i v l e1 e2=>⟨(h.hl8.2.2 i v l e1 e2).1,?_,fun y hy=>?_⟩⟩,h.hal,h.alc,by omega,fun y hy=>Nat.le_trans (h8 y hy) (by decide),h.hgr,by omega,fun g hg=>Nat.le_trans (h9 g hg) (by decide),h.hky,by omega⟩
 ·have:=(hl l (List.mem_of_getElem? e2)).1
  omega
 ·have:=(hl l (List.mem_of_getElem? e2)).2 y hy
  omega
def confS:List Shp:=[.b,.s,.s,.sl [.s],.sl [.s],.sl [.s],.sl [.s],.sl [.s],.sl [.s],.sl [.s],.sl [.s],.sl [.s],.i .i64,.sl [.s,.i .i64],.i .i64,.i .i64,.s,.sl [.i .i64],.b,.b,.i .u32,.i .u32,.i .u32]
theorem oks_consC {w:World} {a:Shp} {l:List Shp} {us:List Value} (h:Shp.oks w (a :: l) us):∃u us',us=u :: us'∧Shp.ok w a u∧Shp.oks w l us':=by
 match us,h with
 | [],h=>simp [Shp.oks] at h
 | u :: us',h=>exact ⟨u,us',rfl,by simpa [Shp.oks] using h⟩
theorem ints_of {w:World} {v:Value} (h:Shp.ok w (.sl [.i .i64]) v):∃(ks:List Int) (A:Option Addr) (c:Nat),v=.slice A ks.length c∧InC w A ks∧ks.length≤maxLen:=by
 simp only [Shp.ok] at h
 obtain ⟨A,n,c,rfl,hnc,hc,hh⟩:=h
 have hex:∀j,∃k:Int,j<n→∃ad,A=some ad∧w.cell? (ad.add j)=some (.int .i64 k):=by
  intro j
  by_cases hj:j<n
  ·obtain ⟨ad,us,e,h1,h2⟩:=hh j hj
   obtain ⟨u,us2,rfl,h3,h4⟩:=oks_consC h2
   simp only [Shp.ok] at h3
   obtain ⟨k,rfl,_⟩:=h3
   refine ⟨k,fun _=>⟨ad,e,?_⟩⟩
   have:=h1 0 _ rfl
   simpa using this
  ·exact ⟨0,fun h=>absurd h hj⟩
 obtain ⟨f,hf⟩:=Classical.axiomOfChoice hex
 refine ⟨(List.range n).map f,A,c,by simp,fun k hk=>?_,by simp;omega⟩
 have hk2:k<n:=by simpa using hk
 obtain ⟨ad,e,h1⟩:=hf k hk2
 refine ⟨ad,e,?_,by simpa using h1⟩
 have:=World.block_lt_of_cell? w _ h1
 rwa [block_of_add] at this
theorem grants_of {w:World} {v:Value} (h:Shp.ok w (.sl [.s,.i .i64]) v):∃(gs:List (List UInt8 × Int)) (A:Option Addr) (c:Nat),v=.slice A gs.length c∧GrC w A gs∧gs.length≤maxLen:=by
 simp only [Shp.ok] at h
 obtain ⟨A,n,c,rfl,hnc,hc,hh⟩:=h
 have hex:∀j,∃g:List UInt8 × Int,j<n→∃ad,A=some ad∧w.cell? (ad.add (j*2))=some (.string (bs g.1))∧w.cell? (ad.add (j*2+1))=some (.int .i64 g.2):=by
  intro j
  by_cases hj:j<n
  ·obtain ⟨ad,us,e,h1,h2⟩:=hh j hj
   obtain ⟨u,us2,rfl,h3,h4⟩:=oks_consC h2
   obtain ⟨u2,us3,rfl,h5,h6⟩:=oks_consC h4
   simp only [Shp.ok] at h3 h5
   obtain ⟨s,rfl,_⟩:=h3
   obtain ⟨k,rfl,_⟩:=h5
   refine ⟨(s.data.toList,k),fun _=>⟨ad,e,?_,?_⟩⟩
   ·have:=h1 0 _ rfl
    have t:w.cell? (ad.add (j*2))=some (.string s):=by simpa using this
    exact t
   ·have:=h1 1 _ rfl
    simpa using this
  ·exact ⟨([],0),fun h=>absurd h hj⟩
 obtain ⟨f,hf⟩:=Classical.axiomOfChoice hex
 refine ⟨(List.range n).map f,A,c,by simp,fun k hk=>?_,by simp;omega⟩
 have hk2:k<n:=by simpa using hk
 obtain ⟨ad,e,h1,h2⟩:=hf k hk2
 have hlt:=World.block_lt_of_cell? w _ h1
 rw [block_of_add] at hlt
 have hadd:ad.add (k*2+1)=⟨(ad.add (k*2)).block,(ad.add (k*2)).off+1,none⟩:=by
  rw [add_succ_]
  cases k with
  | zero=>simp [Addr.add]
  | succ m=>simp [Addr.add];omega
 refine ⟨ad,e,hlt,by simpa using h1,?_⟩
 rw [←hadd]
 simpa using h2
theorem txs_ofW {w:World} {v:Value} (h:Shp.ok w (.sl [.s]) v):∃ls:List (List UInt8),∃A c,v=.slice A ls.length c∧Txc w v ls∧ls.length≤maxLen:=by
 obtain ⟨ls,h1,h2,_⟩:=txs_of h
 obtain ⟨_,A,c,e,_⟩:=id h1
 exact ⟨ls,A,c,e,h1,h2⟩
theorem u32_wrap {q:Int} (h:(Lit.int .u32 q).wf=true):IntKind.i64.wrap q=q:=by
 have h2:0≤q∧q≤4294967295:=by
  simp [Lit.wf,IntKind.min,IntKind.max,IntKind.bits,IntKind.signed] at h
  omega
 exact wrap_small _ (by omega) (by omega)
theorem open_conf {w:World} {us0:List Value} (h:Shp.oks w confS us0):∃(sv ex ge:Bool) (sw cm us:List UInt8) (own lim peer q0 q1 q2:Int),∃A0 n0 c0 A1 n1 c1 A2 n2 c2 A3 n3 c3 A4 n4 c4 A5 n5 c5 A6 n6 c6 A7 n7 c7 A8 c8 A9 c9 A10 c10,∃(ls:List (List (List UInt8))) (al:List (List UInt8)) (gr:List (List UInt8 × Int)) (ky:List Int),
  us0=[.bool sv,.string (bs sw),.string (bs cm),.slice A0 n0 c0,.slice A1 n1 c1,.slice A2 n2 c2,.slice A3 n3 c3,.slice A4 n4 c4,.slice A5 n5 c5,.slice A6 n6 c6,.slice A7 n7 c7,.slice A8 al.length c8,.int .i64 own,.slice A9 gr.length c9,.int .i64 lim,.int .i64 peer,.string (bs us),.slice A10 ky.length c10,.bool ex,.bool ge,.int .u32 q0,.int .u32 q1,.int .u32 q2]∧CfW w sw cm us [.slice A0 n0 c0,.slice A1 n1 c1,.slice A2 n2 c2,.slice A3 n3 c3,.slice A4 n4 c4,.slice A5 n5 c5,.slice A6 n6 c6,.slice A7 n7 c7] ls A8 c8 al A9 gr A10 ky∧IntKind.i64.wrap q0=q0∧IntKind.i64.wrap q1=q1∧IntKind.i64.wrap q2=q2:=by
 unfold confS at h
 obtain ⟨ub,r0,rfl,k0,g0⟩:=oks_consC h
 obtain ⟨u1,r1,rfl,k1,g1⟩:=oks_consC g0
 obtain ⟨u2,r2,rfl,k2,g2⟩:=oks_consC g1
 obtain ⟨v0,r3,rfl,k3,g3⟩:=oks_consC g2
 obtain ⟨v1,r4,rfl,k4,g4⟩:=oks_consC g3
 obtain ⟨v2,r5,rfl,k5,g5⟩:=oks_consC g4
 obtain ⟨v3,r6,rfl,k6,g6⟩:=oks_consC g5
 obtain ⟨v4,r7,rfl,k7,g7⟩:=oks_consC g6
 obtain ⟨v5,r8,rfl,k8,g8⟩:=oks_consC g7
 obtain ⟨v6,r9,rfl,k9,g9⟩:=oks_consC g8
 obtain ⟨v7,r10,rfl,k10,g10⟩:=oks_consC g9
 obtain ⟨va,r11,rfl,k11,g11⟩:=oks_consC g10
 obtain ⟨wo,r12,rfl,k12,g12⟩:=oks_consC g11
 obtain ⟨vg,r13,rfl,k13,g13⟩:=oks_consC g12
 obtain ⟨wl,r14,rfl,k14,g14⟩:=oks_consC g13
 obtain ⟨wp,r15,rfl,k15,g15⟩:=oks_consC g14
 obtain ⟨wu,r16,rfl,k16,g16⟩:=oks_consC g15
 obtain ⟨vk,r17,rfl,k17,g17⟩:=oks_consC g16
 obtain ⟨we,r18,rfl,k18,g18⟩:=oks_consC g17
 obtain ⟨wg,r19,rfl,k19,g19⟩:=oks_consC g18
 obtain ⟨x0,r20,rfl,k20,g20⟩:=oks_consC g19
 obtain ⟨x1,r21,rfl,k21,g21⟩:=oks_consC g20
 obtain ⟨x2,r22,rfl,k22,g22⟩:=oks_consC g21
 have hz:r22=[]:=by have:=oks_len g22;exact List.eq_nil_of_length_eq_zero this
 subst hz
 obtain ⟨l0,A0,c0,rfl,t0,m0⟩:=txs_ofW k3
 obtain ⟨l1,A1,c1,rfl,t1,m1⟩:=txs_ofW k4
 obtain ⟨l2,A2,c2,rfl,t2,m2⟩:=txs_ofW k5
 obtain ⟨l3,A3,c3,rfl,t3,m3⟩:=txs_ofW k6
 obtain ⟨l4,A4,c4,rfl,t4,m4⟩:=txs_ofW k7
 obtain ⟨l5,A5,c5,rfl,t5,m5⟩:=txs_ofW k8
 obtain ⟨l6,A6,c6,rfl,t6,m6⟩:=txs_ofW k9
 obtain ⟨l7,A7,c7,rfl,t7,m7⟩:=txs_ofW k10
 obtain ⟨al,A8,c8,rfl,ta,ma⟩:=txs_ofW k11
 obtain ⟨gr,A9,c9,rfl,tg,mg⟩:=grants_of k13
 obtain ⟨ky,A10,c10,rfl,tk,mk⟩:=ints_of k17
 simp only [Shp.ok] at k0 k1 k2 k12 k14 k15 k16 k18 k19 k20 k21 k22
 obtain ⟨sv,rfl⟩:=k0
 obtain ⟨s1,rfl,_⟩:=k1
 obtain ⟨s2,rfl,_⟩:=k2
 obtain ⟨own,rfl,_⟩:=k12
 obtain ⟨lim,rfl,_⟩:=k14
 obtain ⟨peer,rfl,_⟩:=k15
 obtain ⟨s3,rfl,_⟩:=k16
 obtain ⟨ex,rfl⟩:=k18
 obtain ⟨ge,rfl⟩:=k19
 obtain ⟨q0,rfl,hq0⟩:=k20
 obtain ⟨q1,rfl,hq1⟩:=k21
 obtain ⟨q2,rfl,hq2⟩:=k22
 refine ⟨sv,ex,ge,s1.data.toList,s2.data.toList,s3.data.toList,own,lim,peer,q0,q1,q2,A0,l0.length,c0,A1,l1.length,c1,A2,l2.length,c2,A3,l3.length,c3,A4,l4.length,c4,A5,l5.length,c5,A6,l6.length,c6,A7,l7.length,c7,A8,c8,A9,c9,A10,c10,[l0,l1,l2,l3,l4,l5,l6,l7],al,gr,ky,rfl,⟨⟨rfl,rfl,fun i v l h1 h2=>?_⟩,ta.1,?_,ma,tg,mg,tk,mk⟩,u32_wrap hq0,u32_wrap hq1,u32_wrap hq2⟩
 ·match i,h1,h2 with
  | 0,h1,h2=>cases h1;cases h2;exact ⟨t0,m0⟩
  | 1,h1,h2=>cases h1;cases h2;exact ⟨t1,m1⟩
  | 2,h1,h2=>cases h1;cases h2;exact ⟨t2,m2⟩
  | 3,h1,h2=>cases h1;cases h2;exact ⟨t3,m3⟩
  | 4,h1,h2=>cases h1;cases h2;exact ⟨t4,m4⟩
  | 5,h1,h2=>cases h1;cases h2;exact ⟨t5,m5⟩
  | 6,h1,h2=>cases h1;cases h2;exact ⟨t6,m6⟩
  | 7,h1,h2=>cases h1;cases h2;exact ⟨t7,m7⟩
  | n+8,h1,_=>simp at h1
 ·obtain ⟨_,_,_,e,hc⟩:=ta
  injection e with _ _ e3
  omega
section
variable {w : World}
theorem few25_any {sv ex ge:Bool} {sw cm us:List UInt8} {A0 A1 A2 A3 A4 A5 A6 A7 A8 A9 A10:Option Addr} {n0 n1 n2 n3 n4 n5 n6 n7 c0 c1 c2 c3 c4 c5 c6 c7 c8 c9 c10:Nat} {al:List (List UInt8)} {own lim peer q0 q1 q2:Int} {gr:List (List UInt8 × Int)} {ky:List Int} {ls:List (List (List UInt8))} (hC:CfW w sw cm us [.slice A0 n0 c0,.slice A1 n1 c1,.slice A2 n2 c2,.slice A3 n3 c3,.slice A4 n4 c4,.slice A5 n5 c5,.slice A6 n6 c6,.slice A7 n7 c7] ls A8 c8 al A9 gr A10 ky):Calls Tryz.prog 35 #[.agg #[.bool sv,.string (bs sw),.string (bs cm),.slice A0 n0 c0,.slice A1 n1 c1,.slice A2 n2 c2,.slice A3 n3 c3,.slice A4 n4 c4,.slice A5 n5 c5,.slice A6 n6 c6,.slice A7 n7 c7,.slice A8 al.length c8,.int .i64 own,.slice A9 gr.length c9,.int .i64 lim,.int .i64 peer,.string (bs us),.slice A10 ky.length c10,.bool ex,.bool ge,.int .u32 q0,.int .u32 q1,.int .u32 q2]] w (fun e w'=>e=.returned (.bool (fewC sw cm us ls al gr ky))∧Below w.heap.size w w'):=by
 obtain ⟨W0,hW0⟩:∃W0,W0=w.alloc (.cells #[.bool sv,.string (bs sw),.string (bs cm),.slice A0 n0 c0,.slice A1 n1 c1,.slice A2 n2 c2,.slice A3 n3 c3,.slice A4 n4 c4,.slice A5 n5 c5,.slice A6 n6 c6,.slice A7 n7 c7,.slice A8 al.length c8,.int .i64 own,.slice A9 gr.length c9,.int .i64 lim,.int .i64 peer,.string (bs us),.slice A10 ky.length c10,.bool ex,.bool ge,.int .u32 q0,.int .u32 q1,.int .u32 q2] 30):=⟨_,rfl⟩
 have hb0:Below w.heap.size w W0:=by rw [hW0];exact bel_by
 have hX0:Blk W0 w.heap.size 30 #[.bool sv,.string (bs sw),.string (bs cm),.slice A0 n0 c0,.slice A1 n1 c1,.slice A2 n2 c2,.slice A3 n3 c3,.slice A4 n4 c4,.slice A5 n5 c5,.slice A6 n6 c6,.slice A7 n7 c7,.slice A8 al.length c8,.int .i64 own,.slice A9 gr.length c9,.int .i64 lim,.int .i64 peer,.string (bs us),.slice A10 ky.length c10,.bool ex,.bool ge,.int .u32 q0,.int .u32 q1,.int .u32 q2]:=by rw [hW0];exact Blk.new w _ _
 have HF:=hide (few15_any (hC.hl8.allS.below hb0))
 have HX:=hide (And.intro hb0 (And.intro hX0 hC))
 have hlt0:=hX0.lt
 have z3:=hX0.cell 3
 have z4:=hX0.cell 4
 have z5:=hX0.cell 5
 have z6:=hX0.cell 6
 have z7:=hX0.cell 7
 have z8:=hX0.cell 8
 have z9:=hX0.cell 9
 have z10:=hX0.cell 10
 simp only [List.getElem?_toArray,List.getElem?_cons_zero,List.getElem?_cons_succ] at z3 z4 z5 z6 z7 z8 z9 z10
 clear hb0 hX0 hC
 cases hf:fewLs (ls.map bss) with
 | false =>
  rw [hf] at HF
  have E:=hide (show fewC sw cm us ls al gr ky=false from by unfold fewC;rw [hf];simp)
  clear hf
  go_enter Tryz.func35,Tryz.ntmps35
  go_upto_region 1 with fail
  rw [←hW0]
  clear hW0
  go_wp2_with (first | (go_at_call 80;refine HF.out.mono ?_;rintro e w1 ⟨rfl,hb1⟩;have hX1:=HX.out.2.1.below hb1 hlt0;have y1:=hX1.cell 1;have y2:=hX1.cell 2;have y11:=hX1.cell 11;have y13:=hX1.cell 13;have y16:=hX1.cell 16;have y17:=hX1.cell 17;simp only [List.getElem?_toArray,List.getElem?_cons_zero,List.getElem?_cons_succ] at y1 y2 y11 y13 y16 y17) | fail)
  go_ret
  exact ⟨by rw [E.out];rfl,HX.out.1.trans (hb1.mono HX.out.1.size)⟩
 | true =>
  rw [hf] at HF
  by_cases g0:al.length≤20
  rotate_left 1
  ·have g0b:(20:Int)<al.length:=by omega
   have E:=hide (show fewC sw cm us ls al gr ky=false from by unfold fewC;rw [decide_eq_false g0];simp)
   clear hf
   have g0d:decide ((20:Int)<(al.length:Int))=true:=decide_eq_true g0b
   go_enter Tryz.func35,Tryz.ntmps35
   go_upto_region 1 with fail
   rw [←hW0]
   clear hW0
   go_wp2_with (first | (go_at_call 80;refine HF.out.mono ?_;rintro e w1 ⟨rfl,hb1⟩;have hX1:=HX.out.2.1.below hb1 hlt0;have y1:=hX1.cell 1;have y2:=hX1.cell 2;have y11:=hX1.cell 11;have y13:=hX1.cell 13;have y16:=hX1.cell 16;have y17:=hX1.cell 17;simp only [List.getElem?_toArray,List.getElem?_cons_zero,List.getElem?_cons_succ] at y1 y2 y11 y13 y16 y17) | fail)
   go_ret
   exact ⟨by rw [E.out];rfl,HX.out.1.trans (hb1.mono HX.out.1.size)⟩
  ·have g0b:¬ (20:Int)<al.length:=by omega
   have g0d:decide ((20:Int)<(al.length:Int))=false:=decide_eq_false g0b
   by_cases g1:gr.length≤20
   rotate_left 1
   ·have g1b:(20:Int)<gr.length:=by omega
    have E:=hide (show fewC sw cm us ls al gr ky=false from by unfold fewC;rw [decide_eq_false g1];simp)
    clear hf
    have g1d:decide ((20:Int)<(gr.length:Int))=true:=decide_eq_true g1b
    go_enter Tryz.func35,Tryz.ntmps35
    go_upto_region 1 with fail
    rw [←hW0]
    clear hW0
    go_wp2_with (first | (go_at_call 80;refine HF.out.mono ?_;rintro e w1 ⟨rfl,hb1⟩;have hX1:=HX.out.2.1.below hb1 hlt0;have y1:=hX1.cell 1;have y2:=hX1.cell 2;have y11:=hX1.cell 11;have y13:=hX1.cell 13;have y16:=hX1.cell 16;have y17:=hX1.cell 17;simp only [List.getElem?_toArray,List.getElem?_cons_zero,List.getElem?_cons_succ] at y1 y2 y11 y13 y16 y17) | fail)
    go_ret
    exact ⟨by rw [E.out];rfl,HX.out.1.trans (hb1.mono HX.out.1.size)⟩
   ·have g1b:¬ (20:Int)<gr.length:=by omega
    have g1d:decide ((20:Int)<(gr.length:Int))=false:=decide_eq_false g1b
    by_cases g2:ky.length≤20
    rotate_left 1
    ·have g2b:(20:Int)<ky.length:=by omega
     have E:=hide (show fewC sw cm us ls al gr ky=false from by unfold fewC;rw [decide_eq_false g2];simp)
     clear hf
     have g2d:decide ((20:Int)<(ky.length:Int))=true:=decide_eq_true g2b
     go_enter Tryz.func35,Tryz.ntmps35
     go_upto_region 1 with fail
     rw [←hW0]
     clear hW0
     go_wp2_with (first | (go_at_call 80;refine HF.out.mono ?_;rintro e w1 ⟨rfl,hb1⟩;have hX1:=HX.out.2.1.below hb1 hlt0;have y1:=hX1.cell 1;have y2:=hX1.cell 2;have y11:=hX1.cell 11;have y13:=hX1.cell 13;have y16:=hX1.cell 16;have y17:=hX1.cell 17;simp only [List.getElem?_toArray,List.getElem?_cons_zero,List.getElem?_cons_succ] at y1 y2 y11 y13 y16 y17) | fail)
     go_ret
     exact ⟨by rw [E.out];rfl,HX.out.1.trans (hb1.mono HX.out.1.size)⟩
    ·have g2b:¬ (20:Int)<ky.length:=by omega
     have g2d:decide ((20:Int)<(ky.length:Int))=false:=decide_eq_false g2b
     by_cases g3:sw.length≤300
     rotate_left 1
     ·have g3b:(300:Int)<sw.length:=by omega
      have E:=hide (show fewC sw cm us ls al gr ky=false from by unfold fewC;rw [decide_eq_false g3];simp)
      clear hf
      have g3d:decide ((300:Int)<(sw.length:Int))=true:=decide_eq_true g3b
      have g3c:decide ((300:Int)<((bs sw).size:Int))=true:=decide_eq_true g3b
      go_enter Tryz.func35,Tryz.ntmps35
      go_upto_region 1 with fail
      rw [←hW0]
      clear hW0
      go_wp2_with (first | (go_at_call 80;refine HF.out.mono ?_;rintro e w1 ⟨rfl,hb1⟩;have hX1:=HX.out.2.1.below hb1 hlt0;have y1:=hX1.cell 1;have y2:=hX1.cell 2;have y11:=hX1.cell 11;have y13:=hX1.cell 13;have y16:=hX1.cell 16;have y17:=hX1.cell 17;simp only [List.getElem?_toArray,List.getElem?_cons_zero,List.getElem?_cons_succ] at y1 y2 y11 y13 y16 y17) | fail)
      go_ret
      exact ⟨by rw [E.out];rfl,HX.out.1.trans (hb1.mono HX.out.1.size)⟩
     ·have g3b:¬ (300:Int)<sw.length:=by omega
      have g3d:decide ((300:Int)<(sw.length:Int))=false:=decide_eq_false g3b
      have g3c:decide ((300:Int)<((bs sw).size:Int))=false:=decide_eq_false g3b
      by_cases g4:cm.length≤300
      rotate_left 1
      ·have g4b:(300:Int)<cm.length:=by omega
       have E:=hide (show fewC sw cm us ls al gr ky=false from by unfold fewC;rw [decide_eq_false g4];simp)
       clear hf
       have g4d:decide ((300:Int)<(cm.length:Int))=true:=decide_eq_true g4b
       have g4c:decide ((300:Int)<((bs cm).size:Int))=true:=decide_eq_true g4b
       go_enter Tryz.func35,Tryz.ntmps35
       go_upto_region 1 with fail
       rw [←hW0]
       clear hW0
       go_wp2_with (first | (go_at_call 80;refine HF.out.mono ?_;rintro e w1 ⟨rfl,hb1⟩;have hX1:=HX.out.2.1.below hb1 hlt0;have y1:=hX1.cell 1;have y2:=hX1.cell 2;have y11:=hX1.cell 11;have y13:=hX1.cell 13;have y16:=hX1.cell 16;have y17:=hX1.cell 17;simp only [List.getElem?_toArray,List.getElem?_cons_zero,List.getElem?_cons_succ] at y1 y2 y11 y13 y16 y17) | fail)
       go_ret
       exact ⟨by rw [E.out];rfl,HX.out.1.trans (hb1.mono HX.out.1.size)⟩
      ·have g4b:¬ (300:Int)<cm.length:=by omega
       have g4d:decide ((300:Int)<(cm.length:Int))=false:=decide_eq_false g4b
       have g4c:decide ((300:Int)<((bs cm).size:Int))=false:=decide_eq_false g4b
       by_cases g5:us.length≤300
       rotate_left 1
       ·have g5b:(300:Int)<us.length:=by omega
        have E:=hide (show fewC sw cm us ls al gr ky=false from by unfold fewC;rw [decide_eq_false g5];simp)
        clear hf
        have g5d:decide ((300:Int)<(us.length:Int))=true:=decide_eq_true g5b
        have g5c:decide ((300:Int)<((bs us).size:Int))=true:=decide_eq_true g5b
        go_enter Tryz.func35,Tryz.ntmps35
        go_upto_region 1 with fail
        rw [←hW0]
        clear hW0
        go_wp2_with (first | (go_at_call 80;refine HF.out.mono ?_;rintro e w1 ⟨rfl,hb1⟩;have hX1:=HX.out.2.1.below hb1 hlt0;have y1:=hX1.cell 1;have y2:=hX1.cell 2;have y11:=hX1.cell 11;have y13:=hX1.cell 13;have y16:=hX1.cell 16;have y17:=hX1.cell 17;simp only [List.getElem?_toArray,List.getElem?_cons_zero,List.getElem?_cons_succ] at y1 y2 y11 y13 y16 y17) | fail)
        go_ret
        exact ⟨by rw [E.out];rfl,HX.out.1.trans (hb1.mono HX.out.1.size)⟩
       ·have g5b:¬ (300:Int)<us.length:=by omega
        have g5d:decide ((300:Int)<(us.length:Int))=false:=decide_eq_false g5b
        have g5c:decide ((300:Int)<((bs us).size:Int))=false:=decide_eq_false g5b
        have HE:=hide (show fewC sw cm us ls al gr ky=(al.all (fun x=>decide (x.length≤300)) && gr.all (fun x=>decide (x.1.length≤300))) from by unfold fewC;rw [hf,decide_eq_true g0,decide_eq_true g1,decide_eq_true g2,decide_eq_true g3,decide_eq_true g4,decide_eq_true g5];simp)
        clear hf
        go_enter Tryz.func35,Tryz.ntmps35
        go_upto_region 1 with fail
        rw [←hW0]
        clear hW0
        go_wp2_with (first | (go_at_call 80;refine HF.out.mono ?_;rintro e w1 ⟨rfl,hb1⟩;have hX1:=HX.out.2.1.below hb1 hlt0;have y1:=hX1.cell 1;have y2:=hX1.cell 2;have y11:=hX1.cell 11;have y13:=hX1.cell 13;have y16:=hX1.cell 16;have y17:=hX1.cell 17;simp only [List.getElem?_toArray,List.getElem?_cons_zero,List.getElem?_cons_succ] at y1 y2 y11 y13 y16 y17) | fail)
        have HA:=hide ((HX.out.2.2.hal.below (HX.out.1.trans (hb1.mono HX.out.1.size))).open_)
        have HG:=hide (HX.out.2.2.hgr.below (HX.out.1.trans (hb1.mono HX.out.1.size)))
        have HB1:=hide (HX.out.1.trans (hb1.mono HX.out.1.size))
        obtain ⟨A',c',hv,hA⟩:=HA.out
        obtain ⟨rfl,rfl⟩:A'=A8∧c'=c8:=by injection hv with e1 _ e2;exact ⟨e1.symm,e2.symm⟩
        have HA:=hide hA
        clear hv hA
        go_loop [3] (fun i=>∃k:Nat,k≤al.length∧i=.int .i64 k∧Hid (∀x∈al.take k,x.length≤300)) (fun i=>al.length - (intOf i).toNat)
        case atStart=>exact ⟨0,Nat.zero_le _,rfl,hide (by simp)⟩
        case round =>
         obtain ⟨k,hk,rfl,H⟩:=hrel
         by_cases hlt:k<al.length
         ·have hltI:(k:Int)<al.length:=by omega
          obtain ⟨ad,rfl,had,hc0⟩:=HA.out k hlt
          by_cases h3:al[k].length≤300
          ·have h3b:¬ (300:Int)<al[k].length:=by omega
           have H2:=hide (show ∀x∈al.take (k+1),x.length≤300 from by
            intro x hx
            rw [List.take_succ_eq_append_getElem hlt] at hx
            rcases List.mem_append.1 hx with hx | hx
            ·exact H.out x hx
            ·simp only [List.mem_singleton] at hx
             subst hx
             exact h3)
           clear H HA
           go_wp2_with fail
           go_round
           case rel=>exact ⟨k+1,hlt,by go_num,H2⟩
           case measure=>simp [intOf];omega
          ·have h3b:(300:Int)<al[k].length:=by omega
           have E:=hide (show fewC sw cm us ls al gr ky=false from by rw [HE.out,all_no (List.getElem_mem hlt) (decide_eq_false h3),Bool.false_and])
           clear H HA
           go_wp2_with fail
           go_ret
           exact ⟨by rw [E.out];rfl,HB1.out⟩
         ·have hltI:¬ (k:Int)<al.length:=by omega
          have HAL:=hide (show al.all (fun x=>decide (x.length≤300))=true from List.all_eq_true.2 (fun x hx=>decide_eq_true (H.out x (by rw [List.take_of_length_le (by omega)];exact hx))))
          clear H HA
          go_wp2_with fail
          go_loop [4] (fun i=>∃k:Nat,k≤gr.length∧i=.int .i64 k∧Hid (∀x∈gr.take k,x.1.length≤300)) (fun i=>gr.length - (intOf i).toNat)
          case atStart=>exact ⟨0,Nat.zero_le _,rfl,hide (by simp)⟩
          case round =>
           obtain ⟨k2,hk2,rfl,H⟩:=hrel
           by_cases hlt2:k2<gr.length
           ·have hltJ:(k2:Int)<gr.length:=by omega
            obtain ⟨ad,rfl,had,hc0,hc1⟩:=HG.out k2 hlt2
            by_cases h3:gr[k2].1.length≤300
            ·have h3b:¬ (300:Int)<gr[k2].1.length:=by omega
             have H2:=hide (show ∀x∈gr.take (k2+1),x.1.length≤300 from by
              intro x hx
              rw [List.take_succ_eq_append_getElem hlt2] at hx
              rcases List.mem_append.1 hx with hx | hx
              ·exact H.out x hx
              ·simp only [List.mem_singleton] at hx
               subst hx
               exact h3)
             clear H HG
             go_wp2_with fail
             go_round
             case rel=>exact ⟨k2+1,hlt2,by go_num,H2⟩
             case measure=>simp [intOf];omega
            ·have h3b:(300:Int)<gr[k2].1.length:=by omega
             have E:=hide (show fewC sw cm us ls al gr ky=false from by rw [HE.out,all_no (List.getElem_mem hlt2) (decide_eq_false h3),Bool.and_false])
             clear H HG
             go_wp2_with fail
             go_ret
             exact ⟨by rw [E.out];rfl,HB1.out⟩
           ·have hltJ:¬ (k2:Int)<gr.length:=by omega
            have E:=hide (show fewC sw cm us ls al gr ky=true from by rw [HE.out,HAL.out,Bool.true_and];exact List.all_eq_true.2 (fun x hx=>decide_eq_true (H.out x (by rw [List.take_of_length_le (by omega)];exact hx))))
            clear H HG
            go_wp2_with fail
            go_ret
            exact ⟨by rw [E.out];rfl,HB1.out⟩
end
structure CfP where
 sv:Bool
 ex:Bool
 ge:Bool
 sw:List UInt8
 cm:List UInt8
 us:List UInt8
 A0:Option Addr
 A1:Option Addr
 A2:Option Addr
 A3:Option Addr
 A4:Option Addr
 A5:Option Addr
 A6:Option Addr
 A7:Option Addr
 A8:Option Addr
 A9:Option Addr
 A10:Option Addr
 n0:Nat
 n1:Nat
 n2:Nat
 n3:Nat
 n4:Nat
 n5:Nat
 n6:Nat
 n7:Nat
 c0:Nat
 c1:Nat
 c2:Nat
 c3:Nat
 c4:Nat
 c5:Nat
 c6:Nat
 c7:Nat
 c8:Nat
 c9:Nat
 c10:Nat
 al:List (List UInt8)
 own:Int
 lim:Int
 peer:Int
 q0:Int
 q1:Int
 q2:Int
 gr:List (List UInt8 × Int)
 ky:List Int
 ls:List (List (List UInt8))
def CfP.cells (c:CfP):Array Value:=#[.bool c.sv,.string (bs c.sw),.string (bs c.cm),.slice c.A0 c.n0 c.c0,.slice c.A1 c.n1 c.c1,.slice c.A2 c.n2 c.c2,.slice c.A3 c.n3 c.c3,.slice c.A4 c.n4 c.c4,.slice c.A5 c.n5 c.c5,.slice c.A6 c.n6 c.c6,.slice c.A7 c.n7 c.c7,.slice c.A8 c.al.length c.c8,.int .i64 c.own,.slice c.A9 c.gr.length c.c9,.int .i64 c.lim,.int .i64 c.peer,.string (bs c.us),.slice c.A10 c.ky.length c.c10,.bool c.ex,.bool c.ge,.int .u32 c.q0,.int .u32 c.q1,.int .u32 c.q2]
def CfP.val (c:CfP):Value:=.agg c.cells
def CfP.M (c:CfP) (w:World):Prop:=CfM w c.sw c.cm c.us [.slice c.A0 c.n0 c.c0,.slice c.A1 c.n1 c.c1,.slice c.A2 c.n2 c.c2,.slice c.A3 c.n3 c.c3,.slice c.A4 c.n4 c.c4,.slice c.A5 c.n5 c.c5,.slice c.A6 c.n6 c.c6,.slice c.A7 c.n7 c.c7] c.ls c.A8 c.c8 c.al c.A9 c.gr c.A10 c.ky
theorem CfP.M.below {c:CfP} {w w':World} (h:c.M w) (hb:Below w.heap.size w w'):c.M w':=CfM.below h hb
def CfP.err (c:CfP):ErrO:=errC c.sv c.sw c.cm c.us c.ls c.own c.lim c.peer c.q0 c.q1 c.q2 c.al c.gr c.ky
section
variable {w : World}
theorem CfP.check (c:CfP) (hM:MethV w) (hW:WordV w) (h:c.M w):Calls Tryz.prog 81 #[c.val] w (ErrR c.err w):=ccheck_any hM hW h
theorem CfP.rcheck (c:CfP) (h:c.M w) (h0:IntKind.i64.wrap c.q0=c.q0) (h1:IntKind.i64.wrap c.q1=c.q1) (h2:IntKind.i64.wrap c.q2=c.q2) :
  Calls Tryz.prog 88 #[c.val] w (fun e w'=>e=.returned (.tuple #[.int .i64 (errK c.err),.string (bs (errS c.err))])∧Below w.heap.size w w'):=by
 obtain ⟨sv,ex,ge,sw,cm,us,A0,A1,A2,A3,A4,A5,A6,A7,A8,A9,A10,n0,n1,n2,n3,n4,n5,n6,n7,c0,c1,c2,c3,c4,c5,c6,c7,c8,c9,c10,al,own,lim,peer,q0,q1,q2,gr,ky,ls⟩:=c
 cases sv with
 | true=>exact rcheck_s h h0 h1 h2
 | false=>exact rcheck_c h h0 h1 h2
end
def ErrOk (n:Nat) (o:ErrO):Prop:=∀ps k,o=some (ps,k)→k≠0∧ps.length≤n∧∀p∈ps,p.length≤1000
theorem errOk_unl (b:Bool) {s:List UInt8} {k:Int} (hk:k≠0) (hs:s.length≤1000):ErrOk 2 (unl b s k):=fun ps k2 h=>by
 cases b with
 | true=>cases h
 | false =>
  cases h
  exact ⟨hk,by simp,fun p hp=>by simp only [List.mem_singleton] at hp;subst hp;exact hs⟩
theorem errOk_pr (ls:List (List (List UInt8))):ErrOk 2 (prR (prW ls)):=fun ps k h=>by
 rcases or_opt (prW ls) with hp | ⟨⟨i,z⟩,hp⟩
 ·rw [hp] at h;cases h
 ·rw [hp] at h
  cases h
  refine ⟨(prF_some hp).1,by simp,fun p hq=>?_⟩
  simp only [List.mem_cons,List.mem_nil_iff,or_false] at hq
  rcases hq with rfl | rfl
  ·decide
  ·exact Nat.le_trans (wordL_len i) (by decide)
theorem errOk_deny (gs:List (List UInt8 × Int)) (al:List (List UInt8)) (lim:Int):ErrOk 2 (denyR (denyE gs al lim)):=fun ps k h=>by
 rcases or_opt (denyE gs al lim) with hp | ⟨⟨s,z⟩,hp⟩
 ·rw [hp] at h;cases h
 ·rw [hp] at h
  cases h
  have h2:=denyE_some hp
  refine ⟨h2.1,by simp,fun p hq=>?_⟩
  simp only [List.mem_cons,List.mem_nil_iff,or_false] at hq
  rcases hq with rfl | rfl
  ·decide
  ·exact Nat.le_trans h2.2 (by decide)
theorem errOk_key (ks:List Int):ErrOk 2 (keyE ks):=fun ps k h=>by
 unfold keyE at h
 split at h
 ·cases h
 ·rename_i hz
  cases h
  exact ⟨hz,by simp,fun p hp=>by simp only [List.mem_singleton] at hp;subst hp;decide⟩
theorem errOk_fst:∀(l:List ErrO),(∀o∈l,ErrOk 2 o)→ErrOk 2 (fstE l)
 | [],_=>fun ps k h=>by cases h
 | none :: r,h=>errOk_fst r (fun o ho=>h o (List.mem_cons_of_mem _ ho))
 | some x :: r,h=>h (some x) (List.mem_cons_self ..)
theorem errOk_in {o:ErrO} (h:ErrOk 2 o):ErrOk 3 (inC o):=fun ps k e=>by
 cases o with
 | none=>cases e
 | some x =>
  obtain ⟨qs,z⟩:=x
  cases e
  obtain ⟨h1,h2,h3⟩:=h qs z rfl
  refine ⟨h1,by simp only [List.length_cons];omega,fun p hp=>?_⟩
  rcases List.mem_cons.1 hp with rfl | hp
  ·decide
  ·exact h3 p hp
theorem errOk_C (sv:Bool) (sw cm us:List UInt8) (ls:List (List (List UInt8))) (own lim peer q0 q1 q2:Int) (al:List (List UInt8)) (gr:List (List UInt8 × Int)) (ky:List Int):ErrOk 3 (errC sv sw cm us ls own lim peer q0 q1 q2 al gr ky):=by
 unfold errC
 split
 ·refine errOk_in (errOk_fst _ fun o ho=>?_)
  simp only [List.mem_cons,List.not_mem_nil,or_false] at ho
  rcases ho with rfl | rfl | rfl | rfl
  ·exact errOk_unl _ (by decide) (by decide)
  ·exact errOk_pr _
  ·exact errOk_unl _ (by decide) (by decide)
  ·exact errOk_deny _ _ _
 ·refine errOk_in (errOk_fst _ fun o ho=>?_)
  simp only [List.mem_cons,List.not_mem_nil,or_false] at ho
  rcases ho with rfl | rfl | rfl | rfl | rfl | rfl | rfl
  ·exact errOk_unl _ (by decide) (by decide)
  ·exact errOk_pr _
  ·exact errOk_unl _ (by decide) (by decide)
  ·exact errOk_unl _ (by decide) (by decide)
  ·exact errOk_key _
  ·exact errOk_deny _ _ _
  ·exact errOk_unl _ (by decide) (by decide)
end Go.Proofs.YtnhekaepgpbijaaGreatDoor
