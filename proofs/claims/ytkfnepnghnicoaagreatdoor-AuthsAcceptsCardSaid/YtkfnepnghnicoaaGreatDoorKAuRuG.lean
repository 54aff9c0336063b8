/-
  Several of my texts in one: AuR, AuD, AuK, AuRu.
-/
import Derived.Test.YtkfnepnghnicoaaGreatDoorKAuJG
import Derived.Test.YtkfnepnghnicoaaGreatDoorKGetsG
import Derived.Deep.MidRow
import Derived.Test.YtkfnepnghnicoaaGreatDoorKAuQ
import Derived.Test.YtkfnepnghnicoaaGreatDoorKAuH
import Derived.Test.YtkfnepnghnicoaaGreatDoorKPayDG
import Derived.Test.YtkfnepnghnicoaaGreatDoorKSignCG
import Derived.Test.YtkfnepnghnicoaaGreatDoorKMkrG
import Derived.Test.YtkfnepnghnicoaaGreatDoorKCfAoG
set_option linter.unusedVariables false
set_option linter.unusedSimpArgs false
set_option maxHeartbeats 40000000
set_option maxRecDepth 100000
namespace Go.Proofs.YtkfnepnghnicoaaGreatDoor
open Go.RowKit Go.ChangeShapes Go.WideShapes Go.Sort
section
variable {w : World}
theorem fat_err (s:ByteArray) {er:Value} {ps:List (List UInt8)} {k:Int} (h:IsErr w er ps k):Calls Tryz.prog 42 #[.string s,er] w (fun e w'=>∃b',e=.returned (errV b')∧IsErr w' (errV b') (s.data.toList :: ps) k∧Below w.heap.size w w'):=by
 match ps,h with
 | [],h =>
  obtain rfl:er=.iface 42 (.int .i64 k):=h
  clear h
  go_enter Tryz.func42,Tryz.ntmps42
  go_wp2
  go_ret
  exact ⟨w.heap.size,rfl,⟨_,_,rfl,Blk.new _ _ _,rfl⟩,by exact bel_by⟩
 | p :: ps,h =>
  obtain ⟨b,v',rfl,h1,h2⟩:=h
  exact fat_any s b ⟨b,v',rfl,h1,h2⟩
@[go_sem] theorem fldS_2 (k n:Int) (s:ByteArray) (A:Option Addr) (m c:Nat) (w:World):(Instr.field 75 (.agg #[.int .u8 k,.int .i64 n,.string s,.slice A m c]) 2).run Tryz.prog w=.ok (.string s) w:=by kernel_rfl
@[go_sem] theorem fldS_1 (k n:Int) (s:ByteArray) (A:Option Addr) (m c:Nat) (w:World):(Instr.field 75 (.agg #[.int .u8 k,.int .i64 n,.string s,.slice A m c]) 1).run Tryz.prog w=.ok (.int .i64 n) w:=by kernel_rfl
theorem get_any {A:Option Addr} {c:Nat} {l:List Fld} (hF:Flds w A l) (hl:l.length≤20) (num:Int) (i:Nat):Calls Tryz.prog 68 #[.agg #[.int .i64 num,.slice A l.length c],.int .i64 i] w (fun e w'=>∃A2 m2 c2,e=.returned (.agg #[.int .u8 (atF l i).k,.int .i64 (atF l i).n,.string (bs (atF l i).s),.slice A2 m2 c2])∧Below w.heap.size w w'):=by
 by_cases hi:i<l.length
 ·obtain ⟨ad,lv,rfl,hab,c0,c1,c2,c3,⟨ht,B3,d3,rfl,hc3⟩,hk⟩:=hF.at_ i l[i] (List.getElem?_eq_getElem hi)
  have ha:atF l i=l[i]:=by unfold atF;rw [List.getElem?_eq_getElem hi];rfl
  rw [ha]
  exact (get07_in (c:=c) num i hi hl l[i] ⟨c0,c1,c2,c3⟩).mono fun e w' h=>⟨B3,_,d3,h.1,h.2⟩
 ·have ha:atF l i=⟨0,0,[],[]⟩:=by unfold atF;rw [List.getElem?_eq_none (by omega)];rfl
  rw [ha]
  exact (get07_out num i w (.inr (by omega))).mono fun e w' h=>⟨none,0,0,h.1,h.2⟩
theorem read1_any {bm:Nat} {A:Option Addr} {c:Nat} {l:List Fld} {num:Int} (hF:Flds w A l) (hl:l.length≤20) (m0:w.cell? ⟨bm,0,none⟩=some (.int .i64 num)) (m1:w.cell? ⟨bm,1,none⟩=some (.slice A l.length c)) (i:Nat) :
  Calls Tryz.prog 115 #[.int .i64 i,.pointer (some ⟨bm,0,none⟩)] w (fun e w'=>e=.returned (.string (bs (atF l i).s))∧Below w.heap.size w w'):=by
 have HG:=hide (get_any (c:=c) hF hl num i)
 clear hF
 generalize (atF l i).k=k at HG
 generalize (atF l i).n=n at HG
 generalize bs (atF l i).s=s at HG ⊢
 go_enter Tryz.func115,Tryz.ntmps115
 go_wp2_with fail
 refine HG.out.mono ?_
 rintro e w1 ⟨A2,m2,c2,rfl,hb1⟩
 go_wp2_with fail
 go_ret
 exact ⟨rfl,hb1⟩
end
section
variable {w0 W W' : World} {B g lo hi bs_ bg : Nat} {A9 A8 : Option Addr} {c9 c8 : Nat} {gr : List (List UInt8 × Int)} {al : List (List UInt8)} {lim n : Int} {sid : Option Tm} {T T' : List Tm} {S S' : Nat → Prop} {s : SvS}
theorem afail_any (h:SrvM w0 B g lo hi bs_ bg A9 c9 gr A8 c8 al lim n sid T S s W) {er:Value} {ps:List (List UInt8)} {k:Int} (he:IsErr W er ps k) :
  Calls Tryz.prog 32 #[.pointer (some ⟨bs_,0,none⟩),er] W (fun e w'=>∃b,e=.returned (errV b)∧IsErr w' (errV b) (authsL :: ps) k∧SrvM w0 B g lo hi bs_ bg A9 c9 gr A8 c8 al lim n sid T S ⟨3,s.fl⟩ w'∧Grown (SB bs_ bg S) W (SB bs_ bg S) w'):=by
 have c3:=h.sb.cell 3
 have f3:=h.sb.frozen 3
 simp only [List.getElem?_toArray,List.getElem?_cons_zero,List.getElem?_cons_succ] at c3
 have hB2:=h.sb.set_ 3 (.int .i64 3)
 simp at hB2
 have k1:W.grownBy (W.setCell ⟨bs_,3,none⟩ (.int .i64 3)) (some bs_):=only_setCell (only_refl W (some bs_)) (.inl rfl) _
 have he2:=he.own h.sb (by decide) k1
 obtain ⟨w2,hw2⟩:∃W2,W2=W.setCell ⟨bs_,3,none⟩ (.int .i64 3):=⟨_,rfl⟩
 rw [←hw2] at k1 hB2 he2
 have HM:=hide (h.setPh (ph:=3) k1 hB2)
 have HF:=hide (fat_err ⟨#[97,117,116,104,115]⟩ he2)
 have Hk:=hide (sb_1 (S:=S) (b2:=bg) k1)
 clear h he hB2 k1 he2
 go_enter Tryz.func32,Tryz.ntmps32
 go_upto_region 2 with fail
 rw [←hw2]
 clear hw2 c3 f3
 go_wp2_with fail
 refine HF.out.mono ?_
 rintro e w3 ⟨b,rfl,hi3,hb3⟩
 have Hi:=hide (And.intro hi3 hb3)
 clear hi3 hb3
 go_wp2_with fail
 go_ret
 exact ⟨b,rfl,Hi.out.1,HM.out.below Hi.out.2,Hk.out.trans (Grown.of_below Hi.out.2)⟩
def StrR (w0:World) (B g lo hi bs_ bg:Nat) (A9:Option Addr) (c9:Nat) (gr:List (List UInt8 × Int)) (A8:Option Addr) (c8:Nat) (al:List (List UInt8)) (lim n:Int) (sid:Option Tm) (T:List Tm) (S:Nat→Prop) (W:World) (o:SvS × OutA) (e:Ending) (w':World):Prop :=
 ∃er,e=.returned (.tuple #[.string (bs o.2.out),er])∧ErV w' o.2.err er∧(o.2.err=none→er=.nilIface)∧SrvM w0 B g lo hi bs_ bg A9 c9 gr A8 c8 al lim n sid T S o.1 w'∧Grown (SB bs_ bg S) W (SB bs_ bg S) w'
theorem refuseA_full {lim:Int} {s:SvS} (h:lim≤((s.fl+1:Nat):Int)):refuseA lim s=(⟨s.ph,s.fl+1⟩,⟨[],none,some ([limitL],12)⟩):=if_pos h
theorem refuseA_not {lim:Int} {s:SvS} (h:¬ lim≤((s.fl+1:Nat):Int)):refuseA lim s=(⟨s.ph,s.fl+1⟩,⟨refuseL,none,none⟩):=if_neg h
theorem flds_two {W:World} {b k k':Nat} {n n':Int} {s s':List UInt8} {L L':List (List UInt8)} {A A':Option Addr} {c c':Nat} (h:Blk W b 75 #[.int .u8 k,.int .i64 n,.string (bs s),.slice A L.length c,.int .u8 k',.int .i64 n',.string (bs s'),.slice A' L'.length c']) (h1:Txc W (.slice A L.length c) L) (h2:Txc W (.slice A' L'.length c') L') (hk:k<256) (hk':k'<256):Flds W (some ⟨b,0,none⟩) [⟨k,n,s,L⟩,⟨k',n',s',L'⟩]:=by
 refine ⟨fun i x hx=>?_⟩
 match i with
 | 0 =>
  simp only [List.getElem?_cons_zero,Option.some.injEq] at hx
  subst hx
  refine ⟨⟨b,0,none⟩,.slice A L.length c,rfl,h.lt,?_⟩
  rw [Nat.zero_mul,add_zero_]
  exact ⟨h.cell 0,h.cell 1,h.cell 2,h.cell 3,h1,hk⟩
 | 1 =>
  simp only [List.getElem?_cons_succ,List.getElem?_cons_zero,Option.some.injEq] at hx
  subst hx
  refine ⟨⟨b,0,none⟩,.slice A' L'.length c',rfl,h.lt,?_⟩
  rw [show (1:Nat)*4=4 from rfl,add_zero_]
  exact ⟨h.cell 4,h.cell 5,h.cell 6,h.cell 7,h2,hk'⟩
 | i+2=>simp at hx
theorem refuse_any (h:SrvM w0 B g lo hi bs_ bg A9 c9 gr A8 c8 al lim n sid T S s W) (hf:(s.fl:Int)<lim) (hl:s.fl≤1000) :
  Calls Tryz.prog 118 #[.pointer (some ⟨bs_,0,none⟩)] W (StrR w0 B g lo hi bs_ bg A9 c9 gr A8 c8 al lim n sid T S W (refuseA lim s)):=by
 have c2:=h.sb.cell 2
 simp only [List.getElem?_toArray,List.getElem?_cons_zero,List.getElem?_cons_succ] at c2
 have HF:=hide (gfail_any h.gb hf hl)
 have HM:=hide h
 clear h
 by_cases hfu:lim≤((s.fl+1:Nat):Int)
 ·rw [refuseA_full hfu]
  rw [decide_eq_true hfu] at HF
  have HO:=hide (fun (W:World)=>fof_any ⟨#[108,105,109,105,116]⟩ 12 (by decide) W)
  clear hfu
  go_enter Tryz.func118,Tryz.ntmps118
  go_wp2_with fail
  refine HF.out.mono ?_
  rintro e w1 ⟨rfl,hk1,hB1⟩
  have HM1:=hide (HM.out.setFl hk1 hB1)
  have Hk:=hide (sb_2 (S:=S) (b1:=bs_) hk1)
  clear hk1 hB1 c2
  go_wp2_with fail
  refine (HO.out _).mono ?_
  rintro e w2 ⟨b,rfl,hi2,hb2⟩
  have Hi:=hide (And.intro hi2 hb2)
  clear hi2 hb2
  go_wp2_with fail
  go_ret2
  exact ⟨errV b,rfl,Hi.out.1,(fun h9=>by cases h9),HM1.out.below Hi.out.2,Hk.out.trans (Grown.of_below Hi.out.2)⟩
 ·rw [refuseA_not hfu]
  rw [decide_eq_false hfu] at HF
  clear hfu
  go_enter Tryz.func118,Tryz.ntmps118
  go_wp2_with fail
  refine HF.out.mono ?_
  rintro e w1 ⟨rfl,hk1,hB1⟩
  have HM1:=hide (HM.out.setFl hk1 hB1)
  have Hk:=hide (sb_2 (S:=S) (b1:=bs_) hk1)
  clear hk1 hB1 c2
  obtain ⟨w3,hw3⟩:∃W,W=(w1.alloc (.cells #[.string ⟨#[112,117,98,108,105,99,107,101,121]⟩] 9)).alloc (.cells #[.int .u8 110,.int .i64 0,.string ⟨#[]⟩,.slice (some ⟨w1.heap.size,0,none⟩) 1 1,.int .u8 98,.int .i64 0,.string ⟨#[]⟩,.slice none 0 0] 75):=⟨_,rfl⟩
  have hb3:Below w1.heap.size w1 w3:=by rw [hw3];exact bel_by
  have hX:Blk w3 w1.heap.size 9 #[.string ⟨#[112,117,98,108,105,99,107,101,121]⟩]:=by rw [hw3];exact (Blk.new w1 _ _).alloc _
  have hY:Blk w3 (w1.heap.size+1) 75 #[.int .u8 110,.int .i64 0,.string ⟨#[]⟩,.slice (some ⟨w1.heap.size,0,none⟩) 1 1,.int .u8 98,.int .i64 0,.string ⟨#[]⟩,.slice none 0 0]:=by rw [hw3];exact blk_new2F w1 _ _ _
  have hT1:Txc w3 (.slice (some ⟨w1.heap.size,0,none⟩) [pubkeyL].length 1) [pubkeyL]:=⟨own_txs (B:=0) (own_blkC hX (Nat.zero_le _) rfl (show 1≤maxLen by unfold maxLen;omega)) rfl,_,_,rfl,Nat.le_refl _⟩
  have hFl:Flds w3 (some ⟨w1.heap.size+1,0,none⟩) [⟨110,0,[],[pubkeyL]⟩,⟨98,0,[],[]⟩]:=flds_two (s:=[]) (s':=[]) (L:=[pubkeyL]) (L':=[]) hY hT1 (txc_nil w3 0) (by decide) (by decide)
  have HE:=hide (encode_anyM 51 (c:=2) hFl (fun x hx=>by
   simp only [List.mem_cons,List.not_mem_nil,or_false] at hx
   rcases hx with rfl | rfl
   ·exact ⟨by simp,by simp,fun y hy=>by simp only [List.mem_singleton] at hy;subst hy;decide⟩
   ·exact ⟨by simp,by simp,by simp⟩) (by simp))
  have Hb3:=hide hb3
  clear hX hY hT1 hFl hb3
  go_upto_region 3 with fail
  go_wp2_with fail
  rw [←hw3]
  clear hw3
  refine HE.out.mono ?_
  rintro e w4 ⟨hb4,⟨q,hq,rfl⟩ | ⟨b,ps,k,hk,rfl,_⟩⟩
  ·rw [enc_refuse] at hq
   cases hq
   have Hb4:=hide (Hb3.out.trans (hb4.mono Hb3.out.size))
   clear hb4
   generalize hz:refuseL=z
   have Hz:=hide hz
   clear hz
   go_wp2_with fail
   go_ret2
   have hz:=Hz.out
   subst hz
   exact ⟨.nilIface,rfl,rfl,fun _=>rfl,HM1.out.below Hb4.out,Hk.out.trans (Grown.of_below Hb4.out)⟩
  ·rw [enc_refuse] at hk
   cases hk
end
theorem fin8 {w:World} {r:Nat} {t:TypeId} {o0 o1 o2 o3 o4 o5 o6 o7:Value} (h:Blk w r t #[o0,o1,o2,o3,o4,o5,o6,o7]) (v0 v1 v2 v3 v4 v5 v6 v7:Value) :
  Blk ((((((((w.setCell ⟨r,0,none⟩ v0).setCell ⟨r,1,none⟩ v1).setCell ⟨r,2,none⟩ v2).setCell ⟨r,3,none⟩ v3).setCell ⟨r,4,none⟩ v4).setCell ⟨r,5,none⟩ v5).setCell ⟨r,6,none⟩ v6).setCell ⟨r,7,none⟩ v7) r t #[v0,v1,v2,v3,v4,v5,v6,v7]:=by
 have h1:=(((((((h.set_ 0 v0).set_ 1 v1).set_ 2 v2).set_ 3 v3).set_ 4 v4).set_ 5 v5).set_ 6 v6).set_ 7 v7
 simpa using h1
theorem only8 {w:World} (r:Nat) (v0 v1 v2 v3 v4 v5 v6 v7:Value):w.grownBy ((((((((w.setCell ⟨r,0,none⟩ v0).setCell ⟨r,1,none⟩ v1).setCell ⟨r,2,none⟩ v2).setCell ⟨r,3,none⟩ v3).setCell ⟨r,4,none⟩ v4).setCell ⟨r,5,none⟩ v5).setCell ⟨r,6,none⟩ v6).setCell ⟨r,7,none⟩ v7) (some r) :=
 only_setCell (only_setCell (only_setCell (only_setCell (only_setCell (only_setCell (only_setCell (only_setCell (only_refl w (some r)) (.inl rfl) v0) (.inl rfl) v1) (.inl rfl) v2) (.inl rfl) v3) (.inl rfl) v4) (.inl rfl) v5) (.inl rfl) v6) (.inl rfl) v7
theorem far8 {w:World} {q:Addr} {v:Value} {r:Nat} {v0 v1 v2 v3 v4 v5 v6 v7:Value} (h:w.cell? q=some v) (hne:q.block≠r) :
  ((((((((w.setCell ⟨r,0,none⟩ v0).setCell ⟨r,1,none⟩ v1).setCell ⟨r,2,none⟩ v2).setCell ⟨r,3,none⟩ v3).setCell ⟨r,4,none⟩ v4).setCell ⟨r,5,none⟩ v5).setCell ⟨r,6,none⟩ v6).setCell ⟨r,7,none⟩ v7).cell? q=some v :=
 (World.cell?_of_block ((only8 r v0 v1 v2 v3 v4 v5 v6 v7:w.grownBy _ (some r)).block q.block (block_lt_of_cell h) (fun e=>hne (Option.some.inj e)))).trans h
section
variable {w0 W W' : World} {B g lo hi bs_ bg : Nat} {A9 A8 : Option Addr} {c9 c8 : Nat} {gr : List (List UInt8 × Int)} {al : List (List UInt8)} {lim n : Int} {sid : Option Tm} {T T' : List Tm} {S S' : Nat → Prop} {s : SvS}
theorem fld_pay2 {wb:World} (h:Pay w0 B g T S wb) {s:ByteArray} (hs:s.size≤100000) (hT:T.length≤700000000) (w:World) (hb:Below wb.heap.size wb w):Calls Tryz.prog 18 #[.pointer (some ⟨g,0,none⟩),.string s] w (DoneY w0 B g T S wb (ofT s.data.toList) (2*s.size+1)) :=
 (fldOf_any (h.use.below hb) s hs (by omega)).mono fun _ _ hd=>DoneF.y h hb (by omega) hd
def saidV (l:List Fld) (nk ns:Int):Array Value:=#[.string (bs (atF l 0).s),.string (bs (atF l 1).s),.string (bs (atF l 2).s),.int .i64 (atF l 3).n,.string (bs (atF l 4).s),.int .i64 nk,.string (bs (atF l 5).s),.int .i64 ns]
def ReadA (w0:World) (B g lo hi bs_ bg:Nat) (A9:Option Addr) (c9:Nat) (gr:List (List UInt8 × Int)) (A8:Option Addr) (c8:Nat) (al:List (List UInt8)) (lim n:Int) (sid:Option Tm) (T:List Tm) (S:Nat→Prop) (s:SvS) (W:World) (l:List Fld) (e:Ending) (w':World):Prop :=
 ∃T' S' nk ns,e=.returned (.agg (saidV l nk ns))∧Idn T' (ofT (atF l 5).s) nk∧Idn T' (ofT (atF l 6).s) ns∧T <+: T'∧T'.length≤T.length+2*((atF l 5).s.length+(atF l 6).s.length)+2∧SrvM w0 B g lo hi bs_ bg A9 c9 gr A8 c8 al lim n sid T' S' s w'∧Grown S W S' w'
theorem aread_any (h:SrvM w0 B g lo hi bs_ bg A9 c9 gr A8 c8 al lim n sid T S s W) {num:Int} {A:Option Addr} {c:Nat} {l:List Fld} (FK:∀S' W',Grown S W S' W'→Flds W' A l) (hl:l.length≤20) (hsz:∀i,(atF l i).s.length≤40000) (hT:T.length≤500000000) :
  Calls Tryz.prog 70 #[.pointer (some ⟨bs_,0,none⟩),.agg #[.int .i64 num,.slice A l.length c]] W (ReadA w0 B g lo hi bs_ bg A9 c9 gr A8 c8 al lim n sid T S s W l):=by
 obtain ⟨W0,hW0⟩:∃W0,W0=(W.alloc (.cells #[.int .i64 num,.slice A l.length c] 69)).alloc (.cells #[.string ⟨#[]⟩,.string ⟨#[]⟩,.string ⟨#[]⟩,.int .i64 0,.string ⟨#[]⟩,.int .i64 0,.string ⟨#[]⟩,.int .i64 0] 142):=⟨_,rfl⟩
 have hb0:Below W.heap.size W W0:=by rw [hW0];exact bel_by
 have hXm:Blk W0 W.heap.size 69 #[.int .i64 num,.slice A l.length c]:=by rw [hW0];exact (Blk.new W _ _).alloc _
 have hXs:Blk W0 (W.heap.size+1) 142 #[.string ⟨#[]⟩,.string ⟨#[]⟩,.string ⟨#[]⟩,.int .i64 0,.string ⟨#[]⟩,.int .i64 0,.string ⟨#[]⟩,.int .i64 0]:=by rw [hW0];exact blk_new2F W _ _ _
 have hM0:=h.below hb0
 have hsL:=h.pay.ar.sL
 have hiw:=h.hiw
 have nbs:¬ S bs_:=h.zone.no h.los h.his
 have nbm:¬ S W.heap.size:=fun h9=>by have:=hsL _ h9;omega
 have nbx:¬ S (W.heap.size+1):=fun h9=>by have:=hsL _ h9;omega
 have FK0:=hide (show ∀S' W',Grown S W0 S' W'→Flds W' A l from fun S' W' hG=>FK S' W' ((Grown.of_below hb0).trans hG))
 have x0:=hM0.sb.cell 0
 have m0:=hXm.cell 0
 have m1:=hXm.cell 1
 simp only [List.getElem?_toArray,List.getElem?_cons_zero,List.getElem?_cons_succ] at x0 m0 m1
 have HX:=hide (And.intro x0 (And.intro m0 m1))
 have HS:=hide hXs
 have HR:=hide (fun (j:Int) (i:Nat) (hj:j=i) {S':Nat→Prop} {Wb V:World} (hGs:Grown S W0 S' Wb) (hb:Below Wb.heap.size Wb V)=>show Calls Tryz.prog 115 #[.int .i64 j,.pointer (some ⟨W.heap.size,0,none⟩)] V (fun e w'=>e=.returned (.string (bs (atF l i).s))∧Below Wb.heap.size Wb w') from by
  subst hj
  exact (read1_any (c:=c) ((FK0.out _ _ hGs).below hb) hl (cellB hb (hGs.outs.cell HX.out.2.1 nbm)) (cellB hb (hGs.outs.cell HX.out.2.2 nbm)) i).mono fun e w' h9=>⟨h9.1,hb.trans (h9.2.mono hb.size)⟩)
 have HG3:=hide (fun (S':Nat→Prop) (Wb V:World) (hGs:Grown S W0 S' Wb) (hb:Below Wb.heap.size Wb V)=>show Calls Tryz.prog 68 #[.agg #[.int .i64 num,.slice A l.length c],.int .i64 3] V (fun e w'=>(∃A2 m2 c2,e=.returned (.agg #[.int .u8 (atF l 3).k,.int .i64 (atF l 3).n,.string (bs (atF l 3).s),.slice A2 m2 c2]))∧Below Wb.heap.size Wb w') from
  (get_any (c:=c) ((FK0.out _ _ hGs).below hb) hl num 3).mono fun e w' h9=>by
   obtain ⟨A2,m2,c2,e1,e2⟩:=h9
   exact ⟨⟨A2,m2,c2,e1⟩,hb.trans (e2.mono hb.size)⟩)
 have HM:=hide h
 have HM0:=hide hM0
 have Hb0:=hide hb0
 have hz5:(bs (atF l 5).s).size≤100000:=by show (atF l 5).s.length≤_;have:=hsz 5;omega
 have hz6:(bs (atF l 6).s).size≤100000:=by show (atF l 6).s.length≤_;have:=hsz 6;omega
 have hPs:=hM0.pay
 have hGs:Grown S W0 S W0:=Grown.refl _ _
 have hTs:T.length≤500000000:=hT
 have d1:(⟨bs_,0,none⟩:Addr).block≠W.heap.size+1:=by have:=HM.out.his;show bs_≠_;omega
 have d2:(⟨W.heap.size,0,none⟩:Addr).block≠W.heap.size+1:=by show W.heap.size≠_;omega
 have d3:(⟨W.heap.size,1,none⟩:Addr).block≠W.heap.size+1:=by show W.heap.size≠_;omega
 clear h hM0 hsL FK hXm hXs hb0 hsz
 go_enter Tryz.func70,Tryz.ntmps70
 go_upto_region 1 with fail
 rw [←hW0]
 clear hW0
 go_upto_region 2 with fail
 go_region_held3 (fun V=>V.cell? ⟨bs_,0,none⟩=some (.pointer (some ⟨g,0,none⟩))∧V.cell? ⟨W.heap.size,0,none⟩=some (.int .i64 num)∧V.cell? ⟨W.heap.size,1,none⟩=some (.slice A l.length c))
  (first | (with_reducible exact ⟨far8 x0 d1,far8 m0 d2,far8 m1 d3⟩) | exact ⟨x0,m0,m1⟩)
  (first
   | (go_at_call 115;(first | (with_reducible refine (HR.out 0 0 rfl hGs (by exact bel_by)).mono ?_) | (with_reducible refine (HR.out 1 1 rfl hGs (by exact bel_by)).mono ?_) | (with_reducible refine (HR.out 2 2 rfl hGs (by exact bel_by)).mono ?_) | (with_reducible refine (HR.out 4 4 rfl hGs (by exact bel_by)).mono ?_) | (with_reducible refine (HR.out 5 5 rfl hGs (by exact bel_by)).mono ?_) | (with_reducible refine (HR.out 6 6 rfl hGs (by exact bel_by)).mono ?_));rintro e wq ⟨rfl,hbq⟩;replace hGs:=hGs.trans (Grown.of_below hbq);replace hPs:=hPs.below hbq;replace x0:=hGs.outs.cell HX.out.1 nbs;replace m0:=hGs.outs.cell HX.out.2.1 nbm;replace m1:=hGs.outs.cell HX.out.2.2 nbm)
   | (go_at_call 68;refine (HG3.out _ _ _ hGs (by exact bel_by)).mono ?_;rintro e wq ⟨⟨A2,m2,c2,rfl⟩,hbq⟩;replace hGs:=hGs.trans (Grown.of_below hbq);replace hPs:=hPs.below hbq;replace x0:=hGs.outs.cell HX.out.1 nbs;replace m0:=hGs.outs.cell HX.out.2.1 nbm;replace m1:=hGs.outs.cell HX.out.2.2 nbm)
   | (go_at_call 18;(with_reducible refine (fld_pay2 hPs hz5 (by omega) _ (by exact bel_by)).mono ?_);rintro e wq ⟨Ta,nk,Sa,rfl,hidk,hpk,hlk,hPa,hGa⟩;replace hPs:=hPa;replace hGs:=hGs.trans hGa;replace x0:=hGs.outs.cell HX.out.1 nbs;replace m0:=hGs.outs.cell HX.out.2.1 nbm;replace m1:=hGs.outs.cell HX.out.2.2 nbm)
   | (go_at_call 18;(with_reducible refine (fld_pay2 hPs hz6 (by omega) _ (by exact bel_by)).mono ?_);rintro e wq ⟨Tc,ns,Sc,rfl,hids,hps,hls,hPc,hGc⟩;replace hPs:=hPc;replace hGs:=hGs.trans hGc;replace x0:=hGs.outs.cell HX.out.1 nbs;replace m0:=hGs.outs.cell HX.out.2.1 nbm;replace m1:=hGs.outs.cell HX.out.2.2 nbm;have hX8:=hGs.outs.blk HS.out nbx;have k0:=hX8.cell 0;have k1:=hX8.cell 1;have k2:=hX8.cell 2;have k3:=hX8.cell 3;have k4:=hX8.cell 4;have k5:=hX8.cell 5;have k6:=hX8.cell 6;have k7:=hX8.cell 7;have f0:=hX8.frozen 0;have f1:=hX8.frozen 1;have f2:=hX8.frozen 2;have f3:=hX8.frozen 3;have f4:=hX8.frozen 4;have f5:=hX8.frozen 5;have f6:=hX8.frozen 6;have f7:=hX8.frozen 7;simp only [List.getElem?_toArray,List.getElem?_cons_zero,List.getElem?_cons_succ] at k0 k1 k2 k3 k4 k5 k6 k7;have hlx8:=hX8.lt)
   | fail)
 obtain ⟨w8,hw8⟩:∃W8,W8=((((((((wq.setCell ⟨W.heap.size+1,0,none⟩ (.string (bs (atF l 0).s))).setCell ⟨W.heap.size+1,1,none⟩ (.string (bs (atF l 1).s))).setCell ⟨W.heap.size+1,2,none⟩ (.string (bs (atF l 2).s))).setCell ⟨W.heap.size+1,3,none⟩ (.int .i64 (atF l 3).n)).setCell ⟨W.heap.size+1,4,none⟩ (.string (bs (atF l 4).s))).setCell ⟨W.heap.size+1,5,none⟩ (.int .i64 nk)).setCell ⟨W.heap.size+1,6,none⟩ (.string (bs (atF l 5).s))).setCell ⟨W.heap.size+1,7,none⟩ (.int .i64 ns)):=⟨_,rfl⟩
 have hB8:Blk w8 (W.heap.size+1) 142 (saidV l nk ns):=by rw [hw8];exact fin8 hX8 _ _ _ _ _ _ _ _
 have k8:wq.grownBy w8 (some (W.heap.size+1)):=by rw [hw8];exact only8 _ _ _ _ _ _ _ _ _
 rw [←hw8]
 have hMq:=HM0.out.grown hGs hPs (hpk.trans hps)
 have nbq:¬ Sc (W.heap.size+1):=hGs.notin2 nbx HS.out.lt
 have hBl:=HM.out.pay.use.base
 have Hf:=hide (show ReadA w0 B g lo hi bs_ bg A9 c9 gr A8 c8 al lim n sid T S s W l (.returned (.agg (saidV l nk ns))) w8 from
  ⟨Tc,Sc,nk,ns,rfl,hidk.pre hps,hids,hpk.trans hps,by have e5:(bs (atF l 5).s).size=(atF l 5).s.length:=rfl;have e6:(bs (atF l 6).s).size=(atF l 6).s.length:=rfl;omega,hMq.row k8 nbq (by omega) (by omega),((Grown.of_below Hb0.out).trans hGs).keepNew k8 (fun i e=>by cases e;omega)⟩)
 unfold saidV at hB8
 have q0:=hB8.cell 0
 have q1:=hB8.cell 1
 have q2:=hB8.cell 2
 have q3:=hB8.cell 3
 have q4:=hB8.cell 4
 have q5:=hB8.cell 5
 have q6:=hB8.cell 6
 have q7:=hB8.cell 7
 simp only [List.getElem?_toArray,List.getElem?_cons_zero,List.getElem?_cons_succ] at q0 q1 q2 q3 q4 q5 q6 q7
 clear hw8 hB8 k8 hMq hX8 f0 f1 f2 f3 f4 f5 f6 f7 k0 k1 k2 k3 k4 k5 k6 k7 hGs hPs hPc hGc hPa hGa x0 m0 m1
 go_wp2_with fail
 exact bodyPost_ret (v:=.agg #[.string (bs (atF l 0).s),.string (bs (atF l 1).s),.string (bs (atF l 2).s),.int .i64 (atF l 3).n,.string (bs (atF l 4).s),.int .i64 nk,.string (bs (atF l 5).s),.int .i64 ns]) (by simp [results,Tryz.results70,go_sem,q0,q1,q2,q3,q4,q5,q6,q7]) rfl Hf.out
end
def evC (who:Int) (user service alg:ByteArray) (n:Int):Array Value:=#[.int .i64 4,.int .i64 0,.int .i64 0,.int .i64 who,.string user,.string service,.string alg,.int .i64 n,.string ⟨#[]⟩,.string ⟨#[]⟩,.string ⟨#[]⟩,.string ⟨#[]⟩,.string ⟨#[]⟩,.string ⟨#[]⟩,.string ⟨#[]⟩,.string ⟨#[]⟩,.string ⟨#[]⟩,.string ⟨#[]⟩,.string ⟨#[]⟩,.string ⟨#[]⟩,.int .i64 0,.int .u32 0,.int .u32 0,.int .u32 0,.string ⟨#[]⟩,.string ⟨#[]⟩,.int .i64 0,.int .i64 0,.int .i64 0,.int .i64 0,.int .i64 0,.int .i64 0,.int .i64 0,.int .i64 0]
def EvV (w:World) (n:Int) (o:Option (Nat × List UInt8 × List UInt8)) (sv:List UInt8) (v:Value):Prop:=match o with
 | none=>v=.slice none 0 0
 | some (who,user,alg)=>∃b,v=.slice (some ⟨b,0,none⟩) 1 1∧Blk w b 66 (evC who (bs user) (bs sv) (bs alg) n)
def KnwR (w0:World) (B g lo hi bs_ bg:Nat) (A9:Option Addr) (c9:Nat) (gr:List (List UInt8 × Int)) (A8:Option Addr) (c8:Nat) (al:List (List UInt8)) (lim n:Int) (sid:Option Tm) (T:List Tm) (S:Nat→Prop) (W:World) (m:Nat) (sv:List UInt8) (o:SvS × OutA) (e:Ending) (w':World):Prop :=
 ∃T' S' ev er,e=.returned (.tuple #[.string (bs o.2.out),ev,er])∧EvV w' n o.2.ev sv ev∧ErV w' o.2.err er∧T <+: T'∧T'.length≤T.length+m∧SrvM w0 B g lo hi bs_ bg A9 c9 gr A8 c8 al lim n sid T' S' o.1 w'∧Grown (SB bs_ bg S) W (SB bs_ bg S') w'
theorem cell_alK {w:World} {o:Obj} {p:Addr} {v:Value} (h:w.cell? p=some v):(w.alloc o).cell? p=some v:=(World.cell?_alloc_some _ _ _ (by rw [h];rfl)).trans h
section
variable {w0 W W' : World} {B g lo hi bs_ bg : Nat} {A9 A8 : Option Addr} {c9 c8 : Nat} {gr : List (List UInt8 × Int)} {al : List (List UInt8)} {lim n : Int} {sid : Option Tm} {T T' : List Tm} {S S' : Nat → Prop} {s : SvS}
theorem known_q (h:SrvM w0 B g lo hi bs_ bg A9 c9 gr A8 c8 al lim n sid T S s W) {l:List Fld} {nk ns:Int} (h4:(atF l 4).s.length≤40000) (h5:(atF l 5).s.length≤40000) :
  Calls Tryz.prog 117 #[.pointer (some ⟨bs_,0,none⟩),.agg (saidV l nk ns),.int .i64 6] W (KnwR w0 B g lo hi bs_ bg A9 c9 gr A8 c8 al lim n sid T S W 100 (atF l 1).s (queryA s l)):=by
 unfold saidV
 have hA:∀r,encS 60 [⟨115,0,(atF l 4).s,[]⟩,⟨116,0,(atF l 5).s,[]⟩]=r→queryA s l=(match r with | .ok b=>(s,⟨b,none,none⟩) | r=>match encErr 60 r with | some (ps,k)=>failA s ps (k:Nat) | none=>(s,⟨[],none,none⟩)):=fun r hr=>by
  subst hr
  rfl
 have HA:=hide hA
 obtain ⟨W0,hW0⟩:∃W0,W0=W.alloc (.cells #[.string (bs (atF l 0).s),.string (bs (atF l 1).s),.string (bs (atF l 2).s),.int .i64 (atF l 3).n,.string (bs (atF l 4).s),.int .i64 nk,.string (bs (atF l 5).s),.int .i64 ns] 142):=⟨_,rfl⟩
 have hb0:Below W.heap.size W W0:=by rw [hW0];exact bel_newF _
 have hX:Blk W0 W.heap.size 142 #[.string (bs (atF l 0).s),.string (bs (atF l 1).s),.string (bs (atF l 2).s),.int .i64 (atF l 3).n,.string (bs (atF l 4).s),.int .i64 nk,.string (bs (atF l 5).s),.int .i64 ns]:=by rw [hW0];exact Blk.new W _ _
 have x4:=hX.cell 4
 have x6:=hX.cell 6
 simp only [List.getElem?_toArray,List.getElem?_cons_zero,List.getElem?_cons_succ] at x4 x6
 obtain ⟨W1,hW1⟩:∃W1,W1=W0.alloc (.cells #[.int .u8 115,.int .i64 0,.string (bs (atF l 4).s),.slice none 0 0,.int .u8 116,.int .i64 0,.string (bs (atF l 5).s),.slice none 0 0] 75):=⟨_,rfl⟩
 have hb1:Below W0.heap.size W0 W1:=by rw [hW1];exact bel_newF _
 have hY:Blk W1 W0.heap.size 75 #[.int .u8 115,.int .i64 0,.string (bs (atF l 4).s),.slice none 0 0,.int .u8 116,.int .i64 0,.string (bs (atF l 5).s),.slice none 0 0]:=by rw [hW1];exact Blk.new W0 _ _
 have hFl:Flds W1 (some ⟨W0.heap.size,0,none⟩) [⟨115,0,(atF l 4).s,[]⟩,⟨116,0,(atF l 5).s,[]⟩]:=flds_two (L:=[]) (L':=[]) hY (txc_nil W1 0) (txc_nil W1 0) (by decide) (by decide)
 have HE:=hide (encode_anyM 60 (c:=2) hFl (fun x hx=>by
  simp only [List.mem_cons,List.not_mem_nil,or_false] at hx
  rcases hx with rfl | rfl
  ·exact ⟨by show (atF l 4).s.length≤_;omega,by simp,by simp⟩
  ·exact ⟨by show (atF l 5).s.length≤_;omega,by simp,by simp⟩) (by simp))
 have HM:=hide h
 have Hb:=hide (hb0.trans (hb1.mono hb0.size))
 clear h hb0 hX hb1 hY hFl hA h4 h5
 go_enter Tryz.func117,Tryz.ntmps117
 go_upto_region 1 with fail
 rw [←hW0]
 clear hW0
 go_wp2_with fail
 rw [←hW1]
 clear hW1 x4 x6
 refine HE.out.mono ?_
 rintro e w2 ⟨hb2,⟨b,hb,rfl⟩ | ⟨b,ps,k,hk,rfl,hi2⟩⟩
 ·have E:=hide (HA.out _ hb)
  have Hb2:=hide (Hb.out.trans (hb2.mono Hb.out.size))
  clear hb hb2 HE HA
  go_wp2_with fail
  go_ret3
  rw [E.out]
  exact ⟨T,S,.slice none 0 0,.nilIface,rfl,rfl,rfl,List.prefix_refl _,by omega,HM.out.below Hb2.out,(Grown.of_below Hb2.out).sb _ _⟩
 ·have E:=hide (show queryA s l=failA s ps (k:Nat) from by
   rw [HA.out _ rfl]
   cases hq:encS 60 [⟨115,0,(atF l 4).s,[]⟩,⟨116,0,(atF l 5).s,[]⟩] with
   | ok b=>rw [hq] at hk;cases hk
   | none=>rw [hq] at hk;simp only;rw [hk]
   | long=>rw [hq] at hk;simp only;rw [hk]
   | bad e i=>rw [hq] at hk;simp only;rw [hk])
  have Hb2:=hide (Hb.out.trans (hb2.mono Hb.out.size))
  have Hi:=hide hi2
  clear hk hb2 hi2 HE HA
  go_wp2_with fail
  go_ret3
  rw [E.out]
  exact ⟨T,S,.slice none 0 0,errV b,rfl,rfl,Hi.out,List.prefix_refl _,by omega,HM.out.below Hb2.out,(Grown.of_below Hb2.out).sb _ _⟩
noncomputable def chkP (sid:Option Tm) (l:List Fld):ByteArray:=chkS (isPb (ofT (atF l 5).s)=false) (ofT (atF l 6).s=none∨ofT (atF l 6).s≠userO sid (bs (atF l 0).s) (bs (atF l 1).s) (bs (atF l 4).s) (whoO (ofT (atF l 5).s)))
end
theorem off_of_add (ad:Addr) (k:Nat):(ad.add k).off=ad.off+k:=by cases k <;> rfl
theorem fld_get {V:World} {A:Option Addr} {l:List Fld} (h:Flds V A l) {i:Nat} (hi:i<l.length) {ad:Addr} (hA:A=some ad):V.cell? ⟨ad.block,ad.off+i*4+1,none⟩=some (.int .i64 (atF l i).n)∧V.cell? ⟨ad.block,ad.off+i*4+2,none⟩=some (.string (bs (atF l i).s)):=by
 obtain ⟨ad',lv,e,_,_,c1,c2,_⟩:=h.at_ i l[i] (List.getElem?_eq_getElem hi)
 rw [hA] at e
 cases e
 have ha:atF l i=l[i]:=by unfold atF;rw [List.getElem?_eq_getElem hi];rfl
 rw [block_of_add,off_of_add] at c1 c2
 rw [ha]
 exact ⟨c1,c2⟩
theorem fld_some {V:World} {A:Option Addr} {l:List Fld} (h:Flds V A l) (hl:0<l.length):∃ad,A=some ad∧ad.block<V.heap.size:=by
 obtain ⟨ad',lv,e,hb,_⟩:=h.at_ 0 l[0] (List.getElem?_eq_getElem hl)
 exact ⟨ad',e,hb⟩
structure ReqR (W:World) (b:Nat) (cv:Array Value) (sid:Option Tm) (s:SvS) (A8:Option Addr) (c8:Nat) (al:List (List UInt8)) (A9:Option Addr) (c9:Nat) (gr:List (List UInt8 × Int)) (lim:Int) (A:Option Addr) (l:List Fld):Prop where
 rs:RSv W b cv (bs (txt sid)) s
 p11:cv[11]?=some (.slice A8 al.length c8)
 p13:cv[13]?=some (.slice A9 gr.length c9)
 p14:cv[14]?=some (.int .i64 lim)
 grc:GrC W A9 gr
 alx:Txs W (.slice A8 al.length c8) al
 fk:∀W',W.grownBy W' (some b)→Flds W' A l
 sz:∀i,(atF l i).s.length≤3100
 fine:fineO sid
 fl:(s.fl:Int)<lim
 f1:s.fl≤1000
 gl:gr.length≤1000
 al1:al.length≤1000
end Go.Proofs.YtkfnepnghnicoaaGreatDoor
