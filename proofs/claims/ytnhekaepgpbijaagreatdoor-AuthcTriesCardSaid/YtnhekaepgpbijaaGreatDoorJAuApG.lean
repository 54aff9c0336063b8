/- Several of my texts in one: AuR, AcR, AuK, AuV, AuW, AuX, AuB, AuY, AcD, AuZ, AuAp, AuRu, AcTo. -/
import Derived.Test.YtnhekaepgpbijaaGreatDoorJAcMG
import Derived.Test.YtnhekaepgpbijaaGreatDoorJAuP
import Derived.Test.YtnhekaepgpbijaaGreatDoorJSignCG
import Derived.Test.YtnhekaepgpbijaaGreatDoorJCfKG
import Derived.Test.YtnhekaepgpbijaaGreatDoorJCfLcG
import Derived.Test.YtnhekaepgpbijaaGreatDoorJGetsG
import Derived.BigGuardPart
import Derived.Deep.RegionHeld3
import Derived.WalkMore
import Derived.Deep.MidRow
import Derived.Test.YtnhekaepgpbijaaGreatDoorJMsgHG
import Derived.Test.YtnhekaepgpbijaaGreatDoorJAuQ
import Derived.Test.YtnhekaepgpbijaaGreatDoorJPayDG
import Derived.Test.YtnhekaepgpbijaaGreatDoorJAsG
set_option linter.unusedVariables false
set_option linter.unusedSimpArgs false
set_option maxHeartbeats 40000000
set_option maxRecDepth 100000
namespace Go.Proofs.YtnhekaepgpbijaaGreatDoor
open Go.RowKit Go.ChangeShapes Go.WideShapes Go.Sort
section
variable {w : World}
theorem Gh (s:ByteArray) {er:Value} {ps:List (List UInt8)} {k:Int} (h:aT w er ps k):Calls Tryz.prog 47 #[.string s,er] w (fun e w'=>∃b',e=.returned (aH b')∧aT w' (aH b') (s.data.toList :: ps) k∧Below w.heap.size w w'):=by
 match ps,h with
 | [],h =>
  obtain rfl:er=.iface 43 (.int .i64 k):=h;clear h;go_enter Tryz.func47,Tryz.ntmps47;go_wp2;go_ret;exact ⟨w.heap.size,rfl,⟨_,_,rfl,Blk.new _ _ _,rfl⟩,by exact aa⟩
 | p :: ps,h =>
  obtain ⟨b,v',rfl,h1,h2⟩:=h;exact kL s b ⟨b,v',rfl,h1,h2⟩
@[go_sem] theorem TS (k n:Int) (s:ByteArray) (A:Option Addr) (m c:Nat) (w:World):(Instr.field 60 (.agg #[.int .u8 k,.int .i64 n,.string s,.slice A m c]) 2).run Tryz.prog w=.ok (.string s) w:=by kernel_rfl
@[go_sem] theorem Uc (k n:Int) (s:ByteArray) (A:Option Addr) (m c:Nat) (w:World):(Instr.field 60 (.agg #[.int .u8 k,.int .i64 n,.string s,.slice A m c]) 1).run Tryz.prog w=.ok (.int .i64 n) w:=by kernel_rfl
end
section
variable {q : ClQ} {T T' : List Tm} {S S' : Nat → Prop} {s : bS} {z : TkP} {W W' : World}
theorem aI.k_ (h:aI q T S s z W) (j:Nat) (v:Value):W.grownBy (W.setCell ⟨q.b,24+j,none⟩ v) (some q.b):=ag (aj W (some q.b)) (.inl rfl) _
theorem aI.put_ (h:aI q T S s z W) (j:Nat) (v:Value) {s':bS} (hQ:(Cu q.n s z.A z.c).setIfInBounds j v=Cu q.n s' z.A z.c) (ht:s'.taken=s.taken) (h2:s'.tried≤q.ky.length) (h3:s'.alg.length≤1000):aI q T S s' z (W.setCell ⟨q.b,24+j,none⟩ v) :=
 h.set_ (fun p hp=>World.cell?_setCell_other W ⟨q.b,24+j,none⟩ p v (fun e=>hp (by rw [←e]))) (h.k_ j v) (by have:=h.cb.set_ j v;rwa [hQ] at this) (by rw [ht];exact h.tk) (by rw [ht];exact h.tkl) h2 h3
theorem aI.ph_ (h:aI q T S s z W) (ph:Nat):aI q T S { s with ph:=ph } z (W.setCell ⟨q.b,25,none⟩ (.int .i64 (ph:Nat))):=h.put_ 1 (.int .i64 (ph:Nat)) rfl rfl h.try_ h.alz
theorem aI.gr_ (h:aI q T S s z W) (j:Nat) (v:Value):Grown (SB q.b q.b S) W (SB q.b q.b S) (W.setCell ⟨q.b,24+j,none⟩ v):=RY (h.k_ j v)
theorem aI.c0 (h:aI q T S s z W):W.cell? ⟨q.b,0,none⟩=some (.pointer (some ⟨q.g,0,none⟩)):=h.cb.lo h.ok.p0
theorem aI.c12 (h:aI q T S s z W):W.cell? ⟨q.b,12,none⟩=some (.slice q.A8 q.al.length q.c8):=h.cb.lo h.ok.p12
theorem aI.c17 (h:aI q T S s z W):W.cell? ⟨q.b,17,none⟩=some (.string (bs q.us)):=h.cb.lo h.ok.p17
theorem aI.c18 (h:aI q T S s z W):W.cell? ⟨q.b,18,none⟩=some (.slice q.A10 q.ky.length q.c10):=h.cb.lo h.ok.p18
theorem aI.c24 (h:aI q T S s z W):W.cell? ⟨q.b,24,none⟩=some (.int .i64 q.n):=h.cb.hi (j:=0) rfl
theorem aI.c25 (h:aI q T S s z W):W.cell? ⟨q.b,25,none⟩=some (.int .i64 (s.ph:Nat)):=h.cb.hi (j:=1) rfl
theorem aI.c26 (h:aI q T S s z W):W.cell? ⟨q.b,26,none⟩=some (.bool s.told):=h.cb.hi (j:=2) rfl
theorem aI.c27 (h:aI q T S s z W):W.cell? ⟨q.b,27,none⟩=some (.slice z.A s.taken.length z.c):=h.cb.hi (j:=3) rfl
theorem aI.c28 (h:aI q T S s z W):W.cell? ⟨q.b,28,none⟩=some (.int .i64 (s.tried:Nat)):=h.cb.hi (j:=4) rfl
theorem aI.c29 (h:aI q T S s z W):W.cell? ⟨q.b,29,none⟩=some (.string (bs s.alg)):=h.cb.hi (j:=5) rfl
theorem aI.taken (h:aI q T S s z W):Txs W (.slice z.A s.taken.length z.c) s.taken:=by
 exact h.tk.2.2.2.2.txs h.tk.2.2.1
theorem aI.algs (h:aI q T S s z W):Txs W (.slice q.A8 q.al.length q.c8) q.al:=h.ral.txs (Nat.le_of_lt h.blt)
theorem aI.keys (h:aI q T S s z W):Sl 0 W 1 q.A10 q.ky.length (q.ky.map (Value.int .i64)):=h.rky W (Nat.le_of_lt h.blt) fun _ _ _=>rfl
theorem wE (s:ByteArray) (w:World):Calls Tryz.prog 69 #[.string s] w (fun e w'=>e=.returned (.agg #[.int .u8 115,.int .i64 0,.string s,.slice none 0 0])∧Below w.heap.size w w'):=by
 have hX:=Blk.new w 60 #[.int .u8 115,.int .i64 0,.string s,.slice none 0 0];have x0:=hX.cell 0;have x1:=hX.cell 1;have x2:=hX.cell 2;have x3:=hX.cell 3;simp only [List.getElem?_toArray,List.getElem?_cons_zero,List.getElem?_cons_succ] at x0 x1 x2 x3;have HB:=hide (az (w:=w) (.cells #[.int .u8 115,.int .i64 0,.string s,.slice none 0 0] 60))
 obtain ⟨W0,hW0⟩:∃W0,W0=w.alloc (.cells #[.int .u8 115,.int .i64 0,.string s,.slice none 0 0] 60):=⟨_,rfl⟩
 rw [←hW0] at x0 x1 x2 x3 HB;clear hX;go_enter Tryz.func69,Tryz.ntmps69;go_wp2_with fail;rw [←hW0];clear hW0;exact bodyPost_ret (v:=.agg #[.int .u8 115,.int .i64 0,.string s,.slice none 0 0]) (by simp [results,Tryz.results69,go_sem,x0,x1,x2,x3]) rfl ⟨rfl,HB.out⟩
theorem yn (h:aI q T S s z W):Calls Tryz.prog 34 #[.pointer (some ⟨q.b,0,none⟩)] W (fun e w'=>e=.returned (.bool (decide (s.ph=4)))∧Below W.heap.size W w'):=by
 have x:=h.c25;clear h
 by_cases h4:s.ph=4
 ·rw [h4] at x
  rw [decide_eq_true h4];clear h4;go_enter Tryz.func34,Tryz.ntmps34;go_wp2_with fail;go_ret;exact ⟨rfl,by exact aa⟩
 ·rw [decide_eq_false h4]
  have e4:(((s.ph:Nat):Int) == 4)=false:=by rw [beq_eq_false_iff_ne];omega
  generalize ((s.ph:Nat):Int)=p at x e4;clear h4;go_enter Tryz.func34,Tryz.ntmps34;go_wp2_with fail;go_ret;exact ⟨rfl,by exact aa⟩
theorem CZ (h:aI q T S s z W):Calls Tryz.prog 13 #[.pointer (some ⟨q.b,0,none⟩)] W (fun e w'=>e=.returned (.int .i64 (s.tried:Nat))∧Below W.heap.size W w'):=by
 have x:=h.c28;clear h;generalize ((s.tried:Nat):Int)=p at x ⊢;go_enter Tryz.func13,Tryz.ntmps13;go_wp2_with fail;go_ret;exact ⟨rfl,by exact aa⟩
theorem j3 (h:aI q T S s z W) {er:Value} {ps:List (List UInt8)} {k:Int} (he:aT W er ps k) :
  Calls Tryz.prog 67 #[.pointer (some ⟨q.b,0,none⟩),er] W (fun e w'=>∃b,e=.returned (aH b)∧aT w' (aH b) (dm :: ps) k∧aI q T S { s with ph:=5 } z w'∧Grown (SB q.b q.b S) W (SB q.b q.b S) w'):=by
 have c25:=h.c25;have f25:=h.cb.frz 25;have he2:=he.own h.cb.blk (by decide) (h.k_ 1 (.int .i64 5));have hM:=h.ph_ 5;have hG:=h.gr_ 1 (.int .i64 5)
 obtain ⟨w2,hw2⟩:∃W2,W2=W.setCell ⟨q.b,25,none⟩ (.int .i64 5):=⟨_,rfl⟩
 have hw3:W.setCell ⟨q.b,24+1,none⟩ (.int .i64 5)=w2:=hw2.symm;rw [hw3] at he2 hG;have hM2:aI q T S { s with ph:=5 } z w2:=by rw [hw2];exact hM
 have HM:=hide hM2;have HF:=hide (Gh ⟨#[97,117,116,104,99]⟩ he2);have Hk:=hide hG;clear h he he2 hM hG hM2 hw3;go_enter Tryz.func67,Tryz.ntmps67;go_upto_region 2 with fail;rw [←hw2];clear hw2 c25 f25;go_wp2_with fail;refine HF.out.mono ?_;rintro e w3 ⟨b,rfl,hi3,hb3⟩;have Hi:=hide (And.intro hi3 hb3);clear hi3 hb3;go_wp2_with fail;go_ret;exact ⟨b,rfl,Hi.out.1,HM.out.below Hi.out.2,Hk.out.trans (Grown.of_below Hi.out.2)⟩
end
def evC (who:Int) (user service alg:ByteArray) (n:Int):Array Value:=#[.int .i64 4,.int .i64 0,.int .i64 0,.int .i64 who,.string user,.string service,.string alg,.int .i64 n,.string ⟨#[]⟩,.string ⟨#[]⟩,.string ⟨#[]⟩,.string ⟨#[]⟩,.string ⟨#[]⟩,.string ⟨#[]⟩,.string ⟨#[]⟩,.string ⟨#[]⟩,.string ⟨#[]⟩,.string ⟨#[]⟩,.string ⟨#[]⟩,.string ⟨#[]⟩,.int .i64 0,.int .u32 0,.int .u32 0,.int .u32 0,.string ⟨#[]⟩,.string ⟨#[]⟩,.int .i64 0,.int .i64 0,.int .i64 0,.int .i64 0,.int .i64 0,.int .i64 0,.int .i64 0,.int .i64 0]
def EvV (w:World) (n:Int) (o:Option (Nat × List UInt8 × List UInt8)) (sv:List UInt8) (v:Value):Prop:=match o with
 | none=>v=.slice none 0 0
 | some (who,user,alg)=>∃b,v=.slice (some ⟨b,0,none⟩) 1 1∧Blk w b 69 (evC who (bs user) (bs sv) (bs alg) n)
theorem gP {w:World} {o:Obj} {p:Addr} {v:Value} (h:w.cell? p=some v):(w.alloc o).cell? p=some v:=(World.cell?_alloc_some _ _ _ (by rw [h];rfl)).trans h
theorem nO {lo:Nat} {w w':World} {A:Option Addr} {l:List Fld} {S S':Nat→Prop} (h:dB lo w A l) (hG:Grown S w S' w') (hS:∀i,S i→i<lo):kR w' A l :=
 h w' hG.size fun p h1 h2=>World.cell?_of_block (hG.block p.block h2 (fun h3=>by have:=hS _ h3;omega))
def Tv (p:List UInt8):Prop:=(∀num l,fq p=.ok num l→l.length≤20∧∀i,(atF l i).s.length≤3100)∧(jU (fq p)=none→∃num l,fq p=.ok num l)
def SK (w:World) (o:List UInt8) (v:Value):Prop:=(o=[]→v=.slice none 0 0)∧(o≠[]→∃b,v=.slice (some ⟨b,0,none⟩) 1 1∧Blk w b 9 #[.string (bs o)])
theorem aT.shape {w:World} {v:Value} {ps:List (List UInt8)} {k:Int} (h:aT w v ps k):∃t u,v=.iface t u:=by
 cases ps with
 | nil=>exact ⟨_,_,h⟩
 | cons a r =>
  obtain ⟨b,v',e,_⟩:=h;exact ⟨_,_,e⟩
theorem EvV.below {w w':World} {n:Int} {o:Option (Nat × List UInt8 × List UInt8)} {sv:List UInt8} {v:Value} (h:EvV w n o sv v) (hb:Below w.heap.size w w'):EvV w' n o sv v:=by
 cases o with
 | none=>exact h
 | some x =>
  obtain ⟨b,e,hB⟩:=h;exact ⟨b,e,hB.below hb hB.lt⟩
theorem MK {p:List UInt8} {n:Nat} {l:List Fld} (h:fq p=.ok n l) (hp3:p.length≤3000):(∀x∈l,x.s.length≤3100)∧l.length≤20:=by
 obtain ⟨he,hp⟩:=Gi h;unfold encS at he
 split at he
 ·rename_i hf
  obtain ⟨f1,f2⟩:=oN hf;have hfl:l.length=(fit (n:Int) l.length).1.data.toList.length:=f2.symm.trans (aD _);obtain ⟨e1,e2,e3,_⟩:=qH hfl he;have hpl:([UInt8.ofNat (n:Int).toNat]++dE l).length=p.length:=by rw [e3]
  rw [List.length_append,List.length_singleton] at hpl;refine ⟨fun x hx=>?_,?_⟩
  ·have h0:=xc hx
   obtain ⟨h1,h2,h3⟩:=Cf (e2 x hx);omega
  ·have:=PH f1
   omega
 ·cases he
theorem Bw {p:List UInt8} (h:jU (fq p)=none):∃num l,fq p=.ok num l:=by
 cases p with
 | nil=>cases h
 | cons c r =>
  by_cases hl:32768<(c :: r).length
  ·rw [xI hl] at h
   cases h
  ·cases hf:forms c.toNat with
   | nil =>
    rw [wH hl hf] at h;cases h
   | cons f fs =>
    cases hn:dO (forms c.toNat) r with
    | some l=>exact ⟨_,l,yK (by omega) hn⟩
    | none =>
     rw [BB hl hf hn] at h;rw [hf] at hn
     cases hr:bu f.data.toList r 0 with
     | ok l =>
      simp only [dO,hr] at hn;cases hn
     | no e i=>rw [hr] at h;cases h
     | tail=>rw [hr] at h;cases h
theorem uL:∀(l:List fP),dD l=none→∀o∈l,o=none
 | [],_,_,h=>by cases h
 | none :: r,h,o,ho=>by
  rcases List.mem_cons.1 ho with rfl | h2
  ·rfl
  ·exact uL r h o h2
 | some _ :: _,h,_,_=>by cases h
def RP (c:CfP) (no:Bool):fP:=match c.err with
 | some (ps,k)=>some (Lp :: ps,k)
 | none=>if c.sv=true∧no=false then none else some ([Lp],1)
theorem bD {α:Type} {l:List α} {n:Nat} (h:l.length=n+1):∃x r,l=x :: r∧r.length=n:=by
 cases l with
 | nil=>cases h
 | cons x r=>exact ⟨x,r,rfl,by simpa using h⟩
theorem NB {α:Type} {l:List α} (h:l.length=23):∃a0 a1 a2 a3 a4 a5 a6 a7 a8 a9 a10 a11 a12 a13 a14 a15 a16 a17 a18 a19 a20 a21 a22,l=[a0,a1,a2,a3,a4,a5,a6,a7,a8,a9,a10,a11,a12,a13,a14,a15,a16,a17,a18,a19,a20,a21,a22]:=by
 obtain ⟨a0,l0,rfl,h0⟩:=bD h;obtain ⟨a1,l1,rfl,h1⟩:=bD h0;obtain ⟨a2,l2,rfl,h2⟩:=bD h1;obtain ⟨a3,l3,rfl,h3⟩:=bD h2;obtain ⟨a4,l4,rfl,h4⟩:=bD h3;obtain ⟨a5,l5,rfl,h5⟩:=bD h4;obtain ⟨a6,l6,rfl,h6⟩:=bD h5;obtain ⟨a7,l7,rfl,h7⟩:=bD h6;obtain ⟨a8,l8,rfl,h8⟩:=bD h7;obtain ⟨a9,l9,rfl,h9⟩:=bD h8;obtain ⟨a10,l10,rfl,h10⟩:=bD h9;obtain ⟨a11,l11,rfl,h11⟩:=bD h10;obtain ⟨a12,l12,rfl,h12⟩:=bD h11;obtain ⟨a13,l13,rfl,h13⟩:=bD h12;obtain ⟨a14,l14,rfl,h14⟩:=bD h13;obtain ⟨a15,l15,rfl,h15⟩:=bD h14;obtain ⟨a16,l16,rfl,h16⟩:=bD h15;obtain ⟨a17,l17,rfl,h17⟩:=bD h16;obtain ⟨a18,l18,rfl,h18⟩:=bD h17;obtain ⟨a19,l19,rfl,h19⟩:=bD h18;obtain ⟨a20,l20,rfl,h20⟩:=bD h19;obtain ⟨a21,l21,rfl,h21⟩:=bD h20;obtain ⟨a22,l22,rfl,h22⟩:=bD h21;obtain rfl:l22=[]:=List.eq_nil_of_length_eq_zero h22;exact ⟨_,_,_,_,_,_,_,_,_,_,_,_,_,_,_,_,_,_,_,_,_,_,_,rfl⟩
def Jz (sid:ByteArray):Array Value:=#[.string sid,.int .i64 0,.bool false,.slice none 0 0,.int .i64 0,.string ⟨#[]⟩]
structure RCl (w:World) (b:Nat) (cv:Array Value) (sid:ByteArray):Prop where
 size:cv.size=23
 blk:Blk w b 164 (cv++Jz sid)
theorem RCl.below {w w':World} {b:Nat} {cv:Array Value} {sid:ByteArray} (h:RCl w b cv sid) (hb:Below w.heap.size w w'):RCl w' b cv sid:=⟨h.size,h.blk.below hb h.blk.lt⟩
theorem RCl.far {w:World} {b:Nat} {cv:Array Value} {sid:ByteArray} (h:RCl w b cv sid) {p:Addr} (hp:b≠p.block) (v:Value):RCl (w.setCell p v) b cv sid:=⟨h.size,h.blk.far hp v⟩
theorem RCl.grown {w w':World} {b r:Nat} {cv:Array Value} {sid:ByteArray} (h:RCl w b cv sid) (k:w.grownBy w' (some r)) (hne:b≠r):RCl w' b cv sid:=⟨h.size,h.blk.grown k (fun e=>hne (Option.some.inj e))⟩
theorem Jm (ps:List (List UInt8)):atL (dm :: ps)=[97,117,116,104,99,32]++atL ps:=by
 unfold atL;rw [List.map_cons,List.flatten_cons];rfl
section
theorem J3 (k:Int) (ps:List (List UInt8)) (hs:(atL ps).length≤1000000) (w:World):Calls Tryz.prog 89 #[.int .i64 k,.string (bs (atL ps))] w (fun e w'=>e=.returned (.agg #[.int .i64 k,.string (bs (atL (dm :: ps)))])∧Below w.heap.size w w'):=by
 rw [Jm];have Hx:=hide (show (⟨#[97,117,116,104,99,32]⟩:ByteArray)++bs (atL ps)=bs ([97,117,116,104,99,32]++atL ps) from qL (by rw [ByteArray.toList_eq,ByteArray.toList_eq,data_append];rfl));have hz:(bs (atL ps)).size≤1000000:=hs;have hz2:(6:Int)+(bs (atL ps)).size≤9223372036854775807:=by omega
 generalize bs ([97,117,116,104,99,32]++atL ps)=y at Hx;generalize bs (atL ps)=x at Hx hz hz2 ⊢;clear hs;go_enter Tryz.func89,Tryz.ntmps89;go_wp2_with fail;rw [Hx.out];have hB:=Blk.new w 45 #[.int .i64 0,.string ⟨#[]⟩];have hF:=dF hB (.int .i64 k) (.string y);have q2:=hF.cell 0;have q3:=hF.cell 1;simp at q2 q3;exact bodyPost_ret (v:=.agg #[.int .i64 k,.string y]) (by simp [results,Tryz.results89,go_sem,q2,q3]) rfl ⟨rfl,by exact aa⟩
theorem CF (w:World):Calls Tryz.prog 90 #[] w (fun e w'=>e=.returned (.agg #[.int .i64 0,.string ⟨#[]⟩])∧Below w.heap.size w w'):=by
 go_enter Tryz.func90,Tryz.ntmps90;go_wp2_with fail;have hB:=Blk.new w 45 #[.int .i64 0,.string ⟨#[]⟩];have hF:=dF hB (.int .i64 0) (.string ⟨#[]⟩);have q2:=hF.cell 0;have q3:=hF.cell 1;simp at q2 q3;exact bodyPost_ret (v:=.agg #[.int .i64 0,.string ⟨#[]⟩]) (by simp [results,Tryz.results90,go_sem,q2,q3]) rfl ⟨rfl,by exact aa⟩
end
def fB (c:CfP) (no:Bool):fP:=match c.err with
 | some (ps,k)=>some (dm :: ps,k)
 | none=>if c.sv=false∧no=false then none else some ([dm],1)
theorem PX {c:CfP} {no:Bool} (h:fB c no=none):c.err=none∧c.sv=false∧no=false:=by
 unfold fB at h;rcases eD c.err with he | ⟨⟨qs,z⟩,he⟩
 ·rw [he] at h
  simp only at h
  split at h
  ·rename_i h2
   exact ⟨he,h2⟩
  ·cases h
 ·rw [he] at h
  cases h
theorem F9 {c:CfP} {no:Bool} {ps:List (List UInt8)} {k:Int} (h:c.err=some (ps,k)):fB c no=some (dm :: ps,k):=by unfold fB;rw [h]
theorem FY {c:CfP} {no:Bool} (h:c.err=none) (h2:c.sv=true∨no=true):fB c no=some ([dm],1):=by
 unfold fB;rw [h];simp only;rw [if_neg];rintro ⟨h3,h4⟩;rcases h2 with h5 | h5
 ·rw [h5] at h3;cases h3
 ·rw [h5] at h4;cases h4
theorem Gr {c:CfP} {no:Bool} (h:c.err=none) (h2:c.sv=false) (h3:no=false):fB c no=none:=by
 unfold fB;rw [h];simp only;rw [if_pos ⟨h2,h3⟩]
theorem Js (o:Oper) (ho:o.op=.build 164 #[(0,.tmp 9),(1,.tmp 10)]) (ρ:Operand→Value) {cv:Array Value} {sid:ByteArray} (h9:ρ (.tmp 9)=.agg cv) (h10:ρ (.tmp 10)=.string sid) (hl:cv.toList.length=23) (w:World) :
  (execOp ρ o).run Tryz.prog w=.ok (.value (.agg (cv++Jz sid))) w:=by
 obtain ⟨d,op,t,p,af,gd⟩:=o;simp only at ho;subst ho;unfold Jz;obtain ⟨l⟩:=cv;obtain ⟨a0,a1,a2,a3,a4,a5,a6,a7,a8,a9,a10,a11,a12,a13,a14,a15,a16,a17,a18,a19,a20,a21,a22,e⟩:=NB (l:=l) hl;subst e;clear hl;go_simp
section
variable {w : World}
def RNc (c:CfP) (no:Bool) (cv:Array Value) (sid:ByteArray) (w:World) (e:Ending) (w':World):Prop :=
 ∃b y,e=.returned (.tuple #[.pointer (some ⟨b,0,none⟩),.agg #[.int .i64 (pz (fB c no)),.string y]])∧y=bs (tL (fB c no))∧RCl w' b cv sid∧w.heap.size≤b∧Below w.heap.size w w'
theorem Eu (c:CfP) (h:c.M w) (u0:IntKind.i64.wrap c.q0=c.q0) (u1:IntKind.i64.wrap c.q1=c.q1) (u2:IntKind.i64.wrap c.q2=c.q2) {cv:Array Value} (hcv:CvP c cv) (sid:ByteArray) (no:Bool) (hno:(sid.toList == ([]:List UInt8))=no) :
  Calls Tryz.prog 42 #[.agg cv,.string sid] w (RNc c no cv sid w):=by
 obtain ⟨W0,hW0⟩:∃W0,W0=(w.alloc (.cells cv 30)).alloc (.cells #[.int .i64 0,.string ⟨#[]⟩] 45):=⟨_,rfl⟩
 have hb0:Below w.heap.size w W0:=by rw [hW0];exact aa
 have hX:Blk W0 w.heap.size 30 cv:=by rw [hW0];exact (Blk.new w _ _).alloc _
 have hR0:Blk W0 (w.heap.size+1) 45 #[.int .i64 0,.string ⟨#[]⟩]:=by rw [hW0];exact gN w _ _ _
 have hsz0:W0.heap.size=w.heap.size+2:=by rw [hW0];simp
 obtain ⟨W1,hW1⟩:∃W1,W1=W0.alloc (.cells (cv++Jz sid) 164):=⟨_,rfl⟩
 have hb1:Below W0.heap.size W0 W1:=by rw [hW1];exact az _
 have hl:=hcv.len
 have hS1:RCl W1 W0.heap.size cv sid:=⟨by have:=hl;simpa using this,by rw [hW1];exact Blk.new W0 _ _⟩
 have hX1:=hX.below hb1 hX.lt;have hR1:=hR0.below hb1 hR0.lt;have hb01:=hb0.trans (hb1.mono hb0.size);have HC:=hide (c.rcheck (h.below hb01) u0 u1 u2);rw [hcv.val] at HC;have p0:=(hX1.cell 0).trans hcv.p0;have HI:=hide (fun (ps:List (List UInt8)) (k:Int) (hs:(atL ps).length≤1000000) (V:World)=>J3 k ps hs V);have HFi:=hide (fun (V:World)=>CF V);have HG:=hide (And.intro hb01 (And.intro hR1 (And.intro hS1 hX1)));have hE1:=fun ps k (he:c.err=some (ps,k))=>F9 (no:=no) he
 have hE2:=fun (he:c.err=none) h2=>FY (no:=no) he h2
 have hE3:=fun (he:c.err=none) h2 h3=>Gr (no:=no) he h2 h3
 have hCk:nz 3 c.err:=OQ _ _ _ _ _ _ _ _ _ _ _ _ _ _;have hne:W0.heap.size≠w.heap.size+1:=by omega
 have hle:w.heap.size≤W0.heap.size:=by omega
 unfold RNc;generalize fB c no=o at hE1 hE2 hE3 ⊢;generalize hce:c.err=ce at HC hE1 hE2 hE3 hCk;generalize c.sv=sv at p0 hE2 hE3;have HE:=hide (And.intro hE1 (And.intro hE2 (And.intro hE3 hCk)));have Hsz:=hide (And.intro hne hle);clear hb0 hb1 hR0 hS1 hR1 hb01 h hcv u0 u1 u2 hce hE1 hE2 hE3 hCk hsz0 hne hle hX1;go_enter Tryz.func42,Tryz.ntmps42;go_upto_region 1 with fail;rw [←hW0];clear hW0;refine wp_region_lit ?_;refine aK rfl (.tmp 2) rfl (by rfl) hX hl ?_
 try simp only [Act.put,List.setIfInBounds_toArray,List.set_cons_zero,List.set_cons_succ]
 refine aW (v:=.string sid) (w':=W0) rfl (by go_simp) ?_
 try simp only [Act.put,List.setIfInBounds_toArray,List.set_cons_zero,List.set_cons_succ]
 refine aW (v:=.agg (cv++Jz sid)) (w':=W0) rfl (Js _ rfl _ (by rfl) (by rfl) hl _) ?_
 try simp only [Act.put,List.setIfInBounds_toArray,List.set_cons_zero,List.set_cons_succ]
 generalize (cv++Jz sid)=cs at hW1 ⊢;refine aW (v:=.pointer (some ⟨W0.heap.size,0,none⟩)) (w':=W1) rfl (by rw [hW1];go_simp) ?_
 try simp only [Act.put,List.setIfInBounds_toArray,List.set_cons_zero,List.set_cons_succ]
 clear hW1 hX;generalize W0.heap.size=bq at HG Hsz ⊢;go_upto_region 2 with fail;have hX1:=HG.out.2.2.2;refine wp_region_lit ?_;refine aK rfl (.tmp 2) rfl (by rfl) hX1 hl ?_
 try simp only [Act.put,List.setIfInBounds_toArray,List.set_cons_zero,List.set_cons_succ]
 refine bZ (f:=88) rfl (by go_simp) HC.out ?_;rintro e w2 ⟨rfl,hb2⟩;refine ⟨_,rfl,?_⟩
 try simp only [Act.put,List.setIfInBounds_toArray,List.set_cons_zero,List.set_cons_succ]
 have hR2:=HG.out.2.1.below hb2 HG.out.2.1.lt;have hS2:=HG.out.2.2.1.below hb2;have x0:=dh hb2 p0;have HB2:=hide (And.intro (HG.out.1.trans (hb2.mono HG.out.1.size)) (And.intro hR2 hS2));clear hX1 hl HC hb2 HG p0;rcases ce with _ | ⟨ps,k⟩
 ·simp only [pz,tL]
  have z0:=hR2.cell 0;have z1:=hR2.cell 1;have fz0:=hR2.frozen 0;have fz1:=hR2.frozen 1;simp at z0 z1;have HI0:=hide (fun (V:World)=>HI.out [] 1 (by decide) V);rw [show bs (atL ([]:List (List UInt8)))=⟨#[]⟩ from rfl] at HI0;have HIy:=hide (show bs (atL [dm])=bs (atL [dm]) from rfl);generalize hyy:bs (atL [dm])=yy at HI0;have Hyy:=hide hyy;clear HI HIy hyy
  cases sv with
  | true =>
   have E:=hide (HE.out.2.1 rfl (.inl rfl));clear HE HFi;go_wp2_with fail;refine (HI0.out _).mono ?_;rintro e w3 ⟨rfl,hb3⟩;have hR3:=HB2.out.2.1.below hb3 HB2.out.2.1.lt;have hS3:=HB2.out.2.2.below hb3;have z0:=hR3.cell 0;have z1:=hR3.cell 1;have fz0:=hR3.frozen 0;have fz1:=hR3.frozen 1;simp at z0 z1;have HB3:=hide (And.intro (HB2.out.1.trans (hb3.mono HB2.out.1.size)) (And.intro hR3 hS3));go_wp2_with fail;obtain ⟨hb9,hR9,hS9⟩:=HB3.out;have hF:=dF hR9 (.int .i64 1) (.string yy);have q2:=hF.cell 0;have q3:=hF.cell 1;simp at q2 q3;refine bodyPost_ret (v:=.tuple #[.pointer (some ⟨bq,0,none⟩),.agg #[.int .i64 1,.string yy]]) (by simp [results,Tryz.results42,go_sem,q2,q3]) rfl ?_;rw [E.out];exact ⟨bq,yy,rfl,Hyy.out.symm,(hS9.far (p:=⟨w.heap.size+1,0,none⟩) Hsz.out.1 _).far (p:=⟨w.heap.size+1,1,none⟩) Hsz.out.1 _,Hsz.out.2,(hb9.setCell (p:=⟨w.heap.size+1,0,none⟩) (Nat.le_succ _) _).setCell (p:=⟨w.heap.size+1,1,none⟩) (Nat.le_succ _) _⟩
  | false =>
   cases no with
   | true =>
    have E:=hide (HE.out.2.1 rfl (.inr rfl));clear HE HFi;go_wp2_with fail;refine (HI0.out _).mono ?_;rintro e w3 ⟨rfl,hb3⟩;have hR3:=HB2.out.2.1.below hb3 HB2.out.2.1.lt;have hS3:=HB2.out.2.2.below hb3;have z0:=hR3.cell 0;have z1:=hR3.cell 1;have fz0:=hR3.frozen 0;have fz1:=hR3.frozen 1;simp at z0 z1;have HB3:=hide (And.intro (HB2.out.1.trans (hb3.mono HB2.out.1.size)) (And.intro hR3 hS3));go_wp2_with fail;obtain ⟨hb9,hR9,hS9⟩:=HB3.out;have hF:=dF hR9 (.int .i64 1) (.string yy);have q2:=hF.cell 0;have q3:=hF.cell 1;simp at q2 q3;refine bodyPost_ret (v:=.tuple #[.pointer (some ⟨bq,0,none⟩),.agg #[.int .i64 1,.string yy]]) (by simp [results,Tryz.results42,go_sem,q2,q3]) rfl ?_;rw [E.out];exact ⟨bq,yy,rfl,Hyy.out.symm,(hS9.far (p:=⟨w.heap.size+1,0,none⟩) Hsz.out.1 _).far (p:=⟨w.heap.size+1,1,none⟩) Hsz.out.1 _,Hsz.out.2,(hb9.setCell (p:=⟨w.heap.size+1,0,none⟩) (Nat.le_succ _) _).setCell (p:=⟨w.heap.size+1,1,none⟩) (Nat.le_succ _) _⟩
   | false =>
    have E:=hide (HE.out.2.2.1 rfl rfl rfl);clear HE HI0;go_wp2_with fail;refine (HFi.out _).mono ?_;rintro e w3 ⟨rfl,hb3⟩;have hR3:=HB2.out.2.1.below hb3 HB2.out.2.1.lt;have hS3:=HB2.out.2.2.below hb3;have z0:=hR3.cell 0;have z1:=hR3.cell 1;have fz0:=hR3.frozen 0;have fz1:=hR3.frozen 1;simp at z0 z1;have HB3:=hide (And.intro (HB2.out.1.trans (hb3.mono HB2.out.1.size)) (And.intro hR3 hS3));go_wp2_with fail;obtain ⟨hb9,hR9,hS9⟩:=HB3.out;have hF:=dF hR9 (.int .i64 0) (.string ⟨#[]⟩);have q2:=hF.cell 0;have q3:=hF.cell 1;simp at q2 q3;refine bodyPost_ret (v:=.tuple #[.pointer (some ⟨bq,0,none⟩),.agg #[.int .i64 0,.string ⟨#[]⟩]]) (by simp [results,Tryz.results42,go_sem,q2,q3]) rfl ?_;rw [E.out];exact ⟨bq,⟨#[]⟩,rfl,rfl,(hS9.far (p:=⟨w.heap.size+1,0,none⟩) Hsz.out.1 _).far (p:=⟨w.heap.size+1,1,none⟩) Hsz.out.1 _,Hsz.out.2,(hb9.setCell (p:=⟨w.heap.size+1,0,none⟩) (Nat.le_succ _) _).setCell (p:=⟨w.heap.size+1,1,none⟩) (Nat.le_succ _) _⟩
 ·simp only [pz,tL]
  have E:=hide (HE.out.1 ps k rfl);have hk:=HE.out.2.2.2 ps k rfl;have ek:(k != 0)=true:=by rw [bne_iff_ne];exact hk.1
  have HI0:=hide (fun (V:World)=>HI.out ps k (Nat.le_trans (FZ hk.2.2) (Nat.le_trans (Nat.mul_le_mul_right 1001 hk.2.1) (by decide))) V);generalize bs (atL ps)=xx at HI0 ⊢;generalize hyy:bs (atL (dm :: ps))=yy at HI0;have Hyy:=hide hyy;clear HI hyy HFi HE hk;go_wp2_with fail;refine (HI0.out _).mono ?_;rintro e w3 ⟨rfl,hb3⟩;have hR3:=HB2.out.2.1.below hb3 HB2.out.2.1.lt;have hS3:=HB2.out.2.2.below hb3;have z0:=hR3.cell 0;have z1:=hR3.cell 1;have fz0:=hR3.frozen 0;have fz1:=hR3.frozen 1;simp at z0 z1;have HB3:=hide (And.intro (HB2.out.1.trans (hb3.mono HB2.out.1.size)) (And.intro hR3 hS3));go_wp2_with fail;obtain ⟨hb9,hR9,hS9⟩:=HB3.out;have hF:=dF hR9 (.int .i64 k) (.string yy);have q2:=hF.cell 0;have q3:=hF.cell 1;simp at q2 q3;refine bodyPost_ret (v:=.tuple #[.pointer (some ⟨bq,0,none⟩),.agg #[.int .i64 k,.string yy]]) (by simp [results,Tryz.results42,go_sem,q2,q3]) rfl ?_;rw [E.out];exact ⟨bq,yy,rfl,Hyy.out.symm,(hS9.far (p:=⟨w.heap.size+1,0,none⟩) Hsz.out.1 _).far (p:=⟨w.heap.size+1,1,none⟩) Hsz.out.1 _,Hsz.out.2,(hb9.setCell (p:=⟨w.heap.size+1,0,none⟩) (Nat.le_succ _) _).setCell (p:=⟨w.heap.size+1,1,none⟩) (Nat.le_succ _) _⟩
end
def il (s:ByteArray):Option Tm:=if (s.toList == ([]:List UInt8))=true then none else kZ (aO s)
theorem qF {s:ByteArray} (hs:s.size≤300):aO s=some (.mk 1 0 0 s []):=by
 refine gz ?_;have h:s.data.toList.length=s.size:=aD s;unfold enc;simp only [encs,head,mid,List.append_nil,List.length_append,List.length_cons,List.length_nil,bU];omega
theorem lZ {s:ByteArray} (hs:s.size≤300):kZ (aO s)=some (.mk 7 0 0 eB [.mk 1 0 0 s []]):=by
 rw [qF hs];refine gz ?_;have h:s.data.toList.length=s.size:=aD s;unfold enc;simp only [encs,enc,head,mid,List.append_nil,List.length_append,List.length_cons,List.length_nil,bU];omega
theorem R8 {s:ByteArray} (hs:s.size≤300):∀t,il s=some t→t.k≠0:=fun t h=>by
 unfold il at h
 split at h
 ·cases h
 ·rw [lZ hs] at h
  cases h
  show (7:Nat)≠0;decide
theorem rT {s:ByteArray} (hs:s.size≤300):(il s=none)↔(s.toList == ([]:List UInt8))=true:=by
 unfold il
 split
 ·rename_i h
  exact ⟨fun _=>h,fun _=>rfl⟩
 ·rename_i h
  rw [lZ hs];exact ⟨fun h2=>(by cases h2),fun h2=>absurd h2 h⟩
def DoB (w0:World) (B g:Nat) (T:List Tm) (S:Nat→Prop) (W0:World) (o:Option Tm) (e:Ending) (w':World):Prop :=
 ∃T' n S',e=.returned (.int .i64 n)∧Idn T' o n∧T <+: T'∧T'.length≤T.length+1∧Pay w0 B g T' S' w'∧Grown S W0 S' w'
section
variable {w0 W0 w : World} {B g : Nat} {T : List Tm} {S : Nat → Prop} {n : Int}
theorem x9 (hP:Pay w0 B g T S W0) {s:ByteArray} (hs:s.size≤1000000) (hT:T.length≤900000) {V:World} (hb:Below W0.heap.size W0 V):Calls Tryz.prog 38 #[.pointer (some ⟨g,0,none⟩),.string s] V (DoB w0 B g T S W0 (aO s)) :=
 (qG (hP.use.below hb) hs).mono fun e w' ⟨T',n,S',he,hpt,hA,hG⟩=>⟨T',n,S',he,hpt.idn,hpt.pre,hpt.len,(hP.below hb).grown hG hA (by have:=hpt.len;omega),(Grown.of_below hb).trans hG⟩
theorem Jp (hP:Pay w0 B g T S W0) {o:Option Tm} (hid:Idn T o n) (hT:T.length≤900000) {V:World} (hb:Below W0.heap.size W0 V):Calls Tryz.prog 39 #[.pointer (some ⟨g,0,none⟩),.int .i64 n] V (DoB w0 B g T S W0 (kZ o)):=by
 have h:=wI (hP.use.below hb) n;rw [hid.1] at h
 exact h.mono fun e w' ⟨T',n,S',he,hpt,hA,hG⟩=>⟨T',n,S',he,hpt.idn,hpt.pre,hpt.len,(hP.below hb).grown hG hA (by have:=hpt.len;omega),(Grown.of_below hb).trans hG⟩
theorem Grown.setNew {w w8 w9:World} {S S':Nat→Prop} {r:Nat} (h:Grown S w S' w8) (k:w8.grownBy w9 (some r)) (hr:w.heap.size≤r):Grown S w S' w9 :=
 ⟨k.os.trans h.os,k.tape.trans h.tape,k.output.trans h.output,Nat.le_trans h.size k.size,fun i hi hn=>(k.block i (Nat.lt_of_lt_of_le hi h.size) (fun e=>by have:=Option.some.inj e;omega)).trans (h.block i hi hn),h.sub,h.new⟩
theorem ErV.own {w w':World} {r:Nat} {t:TypeId} {cs:Array Value} {o:Option (List (List UInt8) × Int)} {v:Value} (h:ErV w o v) (hr:Blk w r t cs) (hne:t≠170) (k:w.grownBy w' (some r)):ErV w' o v:=by
 cases o with
 | none=>exact h
 | some x=>exact aT.own hr hne k h
theorem ErV.below {w w':World} {o:Option (List (List UInt8) × Int)} {v:Value} (h:ErV w o v) (hb:Below w.heap.size w w'):ErV w' o v:=by
 cases o with
 | none=>exact h
 | some x=>exact aT.below hb h
theorem RSv.grown {w w':World} {b r:Nat} {cv:Array Value} {sid:ByteArray} {s:SvS} (h:RSv w b cv sid s) (k:w.grownBy w' (some r)) (hne:b≠r):RSv w' b cv sid s:=⟨h.size,h.blk.grown k (fun e=>hne (Option.some.inj e))⟩
theorem qc.rowLo {w0 W W':World} {B g lo hi bs_ bg:Nat} {A9 A8:Option Addr} {c9 c8:Nat} {gr:List (List UInt8 × Int)} {al:List (List UInt8)} {lim n:Int} {sid:Option Tm} {T:List Tm} {S:Nat→Prop} {s:SvS} (h:qc w0 B g lo hi bs_ bg A9 c9 gr A8 c8 al lim n sid T S s W) {b:Nat} (k:W.grownBy W' (some b)) (hn:¬ S b) (hB:B≤b) (hb:b<lo):qc w0 B g lo hi bs_ bg A9 c9 gr A8 c8 al lim n sid T S s W' :=
 { h with pay:=h.pay.kept k hn hB,hiw:=Nat.le_trans h.hiw k.size,sb:=h.sb.grown k (fun e=>by have:=Option.some.inj e;have:=h.los;omega),gb:=h.gb.grown k (fun e=>by have:=Option.some.inj e;have:=h.log;omega),r9:=h.r9.kept k (.inr (fun e=>by have:=(h.r9.lt _ e).1;omega)),r8:=h.r8.kept k (.inr (fun e=>by have:=(h.r8.lt _ e).1;omega)) }
structure UF (w0:World) (B g:Nat) (c:CfP) (sid:ByteArray) (cv:Array Value) (T:List Tm) (S:Nat→Prop) (w:World) (n:Int) (p:Option Addr) (er:Value) (bq:Nat) (T':List Tm) (S':Nat→Prop) (w':World):Prop where
 er:ErV w' (RP c (sid.toList == ([]:List UInt8))) er
 id:Idn T' (il sid) n
 pre:T <+: T'
 len:T'.length≤T.length+2
 pay:Pay w0 B g T' S' w'
 gr:Grown S w S' w'
 ref:RSv w' bq cv (bs (txt (il sid))) ⟨0,0⟩
 lb:w.heap.size≤bq
 sb:∀i,S' i→i<bq
 no:RP c (sid.toList == ([]:List UInt8))≠none→p=none
 ok:RP c (sid.toList == ([]:List UInt8))=none→∃lo hi bs_ bg A9 c9 A8 c8,w.heap.size≤lo∧hi≤bq∧p=some ⟨bs_,0,none⟩∧qc w0 B g lo hi bs_ bg A9 c9 c.gr A8 c8 c.al c.lim n (il sid) T' S' ⟨0,0⟩ w'
end
end Go.Proofs.YtnhekaepgpbijaaGreatDoor
namespace Go.Proofs.YtnhekaepgpbijaaGreatDoor
open Go.RowKit
structure UB (P:Nat × List UInt8 × List UInt8→Prop) (lim:Int) (s:SvS) (r:SvS × QI):Prop where
 fl:r.2.err=none→(r.1.fl:Int)<lim
 fle:(r.1.fl:Int)≤lim
 ph:r.2.err=none→r.2.ev=none→(r.1.ph=2→s.ph=2)∧(r.1.ph≤1→s.ph≤1)
 ev:∀x,r.2.ev=some x→r.2.err=none∧s.ph=1∧r.1=⟨2,s.fl⟩∧P x
section
variable {P : Nat × List UInt8 × List UInt8 → Prop} {lim : Int} {s : SvS} {gr : List (List UInt8 × Int)} {al : List (List UInt8)} {sid : Option Tm} {l : List Fld}
structure UD (lim:Int) (s:SvS) (many:Nat):Prop where
 fle:(s.fl:Int)≤lim
 fl:s.ph≠3→(s.fl:Int)<lim
 m1:many≤1
 no:s.ph≤1→many=0
end
end Go.Proofs.YtnhekaepgpbijaaGreatDoor
namespace Go.Proofs.YtnhekaepgpbijaaGreatDoor
open Go.RowKit Go.ChangeShapes Go.WideShapes Go.Sort
theorem sF {P:Program} {Q:Exit→Act→World→Prop} {ops:Array Oper} {o:Oper} {a:Act} {w:World} {args:Array Value} {f:FuncId} {K:Act→World→Prop} {F:Prop} (hw:Region.wanted o (yielded ops a.tmps)=true)
  (hr:(execOp a.eval o).run P w=.ok (.enter f args) w) {post:Ending→World→Prop} (hc:Calls P f args w post) (h:∀e w',post e w'→∃r,e=.returned r∧K (a.put o.dst r) w'):if Region.wanted o (yielded ops a.tmps)=true then Oper.wp P o a w K Q else F:=by
 rw [if_pos hw];unfold Oper.wp;rw [hr,Oper.upon_enter];refine hc.mono fun e w' hp=>?_
 obtain ⟨r,rfl,hk⟩:=h e w' hp;exact hk
theorem qZ {Q:Exit→Act→World→Prop} {ops:Array Oper} {o:Oper} {a:Act} {w:World} {K:Act→World→Prop} {F:Prop} (hw:Region.wanted o (yielded ops a.tmps)=true) (ty:TypeId) (x y:Operand) (ho:o.op=.store ty x y) (b c:Nat) (cells:Array Value) (hx:a.eval x=.pointer (some ⟨b,c,none⟩)) (hy:a.eval y=.agg cells)
  (ht:w.there b c cells.size) (hi:(Tryz.prog.info? ty).map (·.size)=some cells.size) (h1:cells.all (·.oneCell')=true) (h:K (a.put o.dst undef) (w.setCells b c cells.toList)):if Region.wanted o (yielded ops a.tmps)=true then Oper.wp Tryz.prog o a w K Q else F:=by
 rw [if_pos hw];exact wp_store_mid ty x y ho b c cells hx hy ht hi h1 h
theorem Mj:(Tryz.prog.info? 45).map (·.size)=some 2:=by kernel_rfl
structure UG (W:World) (b:Nat) (cv:Array Value) (sid:Option Tm) (s:SvS) (A8:Option Addr) (c8:Nat) (al:List (List UInt8)) (A9:Option Addr) (c9:Nat) (gr:List (List UInt8 × Int)) (lim:Int) (A:Option Addr) (l:List Fld):Prop where
 rs:RSv W b cv (bs (txt sid)) s
 p11:cv[11]?=some (.slice A8 al.length c8)
 p13:cv[13]?=some (.slice A9 gr.length c9)
 p14:cv[14]?=some (.int .i64 lim)
 grc:GrC W A9 gr
 alx:Txs W (.slice A8 al.length c8) al
 fk:∀W',W.grownBy W' (some b)→kR W' A l
 sz:∀i,(atF l i).s.length≤3100
 fine:jN sid
 fl:(s.fl:Int)<lim
 f1:s.fl≤1000
 gl:gr.length≤1000
 al1:al.length≤1000
section
variable {w : World}
theorem uo {b:Nat} {ps:List (List UInt8)} {k:Int} (hk:k≠0) (hps:ps.length≤20) (hsz:∀p∈ps,p.length≤1000) (h:aT w (aH b) ps k) (hg:Hand w) :
  Calls Tryz.prog 33 #[aH b,.agg #[.int .i64 k,.string (bs (atL ps))]] w (fun e w'=>e=.returned (.bool true)∧Below w.heap.size w w'):=by
 have e0:(k == 0)=false:=by rw [beq_eq_false_iff_ne];exact hk
 have HW:=hide (fun (W:World) (hb:Below w.heap.size w W)=>LV b hps hsz (h.below hb) (hg.below hb));generalize bs (atL ps)=x at HW ⊢;unfold aH at HW ⊢;clear h hg hk hsz;go_enter Tryz.func33,Tryz.ntmps33;go_wp2_with fail;refine (HW.out _ (by exact aa)).mono ?_;rintro e w1 ⟨rfl,hb1⟩;go_wp2_with fail;go_ret;exact ⟨rfl,by exact aa⟩
end
end Go.Proofs.YtnhekaepgpbijaaGreatDoor
