/-
  The contract of conf.Check. Conditions: lists of at most 1,000,000 texts; the listed variables are there.
-/
import Derived.Test.YtkfnepnghnicoaaGreatDoorKCfG
set_option linter.unusedVariables false
set_option linter.unusedSimpArgs false
set_option maxHeartbeats 40000000
set_option maxRecDepth 100000
namespace Go.Proofs.YtkfnepnghnicoaaGreatDoor
open Go.RowKit Go.ChangeShapes Go.WideShapes Go.Sort
theorem infoCk:(Tryz.prog.info? 187).map (fun i=>(i.zero,i.size,i.bytes))=some (some .nilFunc,1,8):=by kernel_rfl
structure RowF (w8:World) (b1 b2:Nat) (cv:Array Value) (ad:Addr) (fs:List Value) (W:World):Prop where
 bel:Below w8.heap.size w8 W
 x1:Blk W b1 30 cv
 x2:Blk W b2 30 cv
 lt:ad.block<W.heap.size
 at_:∀(k:Nat) u,fs[k]?=some u→W.cell? (ad.add k)=some u
theorem RowF.below {w8:World} {b1 b2:Nat} {cv:Array Value} {ad:Addr} {fs:List Value} {W W':World} (h:RowF w8 b1 b2 cv ad fs W) (hb:Below W.heap.size W W'):RowF w8 b1 b2 cv ad fs W' :=
 ⟨h.bel.trans (hb.mono h.bel.size),h.x1.below hb h.x1.lt,h.x2.below hb h.x2.lt,Nat.lt_of_lt_of_le h.lt hb.size,fun k u hu=>(hb.cell (p:=ad.add k) (by rw [block_of_add];exact h.lt)).trans (h.at_ k u hu)⟩
theorem or_opt {α:Type} (o:Option α):o=none∨∃x,o=some x:=by
 cases o with
 | none=>exact .inl rfl
 | some x=>exact .inr ⟨x,rfl⟩
section
variable {w : World}
theorem wpList_load_confA {ops:Array Oper} {rest:List Oper} {op:Oper} {a:Act} {Q:Exit→Act→World→Prop} (hgd:op.guard=none) (x:Operand) (ho:op.op=.load 30 x) {b:Nat} (hx:a.eval x=.pointer (some ⟨b,0,none⟩)) {cv:Array Value} (hX:Blk w b 30 cv) (hl:cv.toList.length=23)
  (h:wpList Tryz.prog ops Q rest (a.put op.dst (.agg cv)) w):wpList Tryz.prog ops Q (op :: rest) a w :=
 wpList_load_conf (cs:=cv.toList) hgd x ho hx (by rw [Array.toArray_toList];exact hX) hl (by rw [Array.toArray_toList];exact h)
theorem check_s {ex ge:Bool} {sw cm us:List UInt8} {A0 A1 A2 A3 A4 A5 A6 A7 A8 A9 A10:Option Addr} {n0 n1 n2 n3 n4 n5 n6 n7 c0 c1 c2 c3 c4 c5 c6 c7 c8 c9 c10:Nat} {al:List (List UInt8)} {own lim peer q0 q1 q2:Int} {gr:List (List UInt8 × Int)} {ky:List Int} {ls:List (List (List UInt8))} (hM:MethV w) (hW:WordV w) (hC:CfM w sw cm us [.slice A0 n0 c0,.slice A1 n1 c1,.slice A2 n2 c2,.slice A3 n3 c3,.slice A4 n4 c4,.slice A5 n5 c5,.slice A6 n6 c6,.slice A7 n7 c7] ls A8 c8 al A9 gr A10 ky) :
  Calls Tryz.prog 58 #[.agg #[.bool true,.string (bs sw),.string (bs cm),.slice A0 n0 c0,.slice A1 n1 c1,.slice A2 n2 c2,.slice A3 n3 c3,.slice A4 n4 c4,.slice A5 n5 c5,.slice A6 n6 c6,.slice A7 n7 c7,.slice A8 al.length c8,.int .i64 own,.slice A9 gr.length c9,.int .i64 lim,.int .i64 peer,.string (bs us),.slice A10 ky.length c10,.bool ex,.bool ge,.int .u32 q0,.int .u32 q1,.int .u32 q2]] w (ErrR (inC (fstE [unl (verL sw cm != []) [118,101,114,115,105,111,110] 1,prR (prW ls),unl (princL own) [111,119,110] 5,denyR (denyE gr al lim)])) w):=by
 obtain ⟨W0,hW0⟩:∃W0,W0=w.alloc (.cells #[.bool true,.string (bs sw),.string (bs cm),.slice A0 n0 c0,.slice A1 n1 c1,.slice A2 n2 c2,.slice A3 n3 c3,.slice A4 n4 c4,.slice A5 n5 c5,.slice A6 n6 c6,.slice A7 n7 c7,.slice A8 al.length c8,.int .i64 own,.slice A9 gr.length c9,.int .i64 lim,.int .i64 peer,.string (bs us),.slice A10 ky.length c10,.bool ex,.bool ge,.int .u32 q0,.int .u32 q1,.int .u32 q2] 30):=⟨_,rfl⟩
 have hb0:Below w.heap.size w W0:=by rw [hW0];exact bel_by
 have hX0:Blk W0 w.heap.size 30 #[.bool true,.string (bs sw),.string (bs cm),.slice A0 n0 c0,.slice A1 n1 c1,.slice A2 n2 c2,.slice A3 n3 c3,.slice A4 n4 c4,.slice A5 n5 c5,.slice A6 n6 c6,.slice A7 n7 c7,.slice A8 al.length c8,.int .i64 own,.slice A9 gr.length c9,.int .i64 lim,.int .i64 peer,.string (bs us),.slice A10 ky.length c10,.bool ex,.bool ge,.int .u32 q0,.int .u32 q1,.int .u32 q2]:=by rw [hW0];exact Blk.new w _ _
 have K0:=hide (fun (w8 W:World) (b1 b2:Nat) (ad:Addr) (h:RowF w8 b1 b2 #[.bool true,.string (bs sw),.string (bs cm),.slice A0 n0 c0,.slice A1 n1 c1,.slice A2 n2 c2,.slice A3 n3 c3,.slice A4 n4 c4,.slice A5 n5 c5,.slice A6 n6 c6,.slice A7 n7 c7,.slice A8 al.length c8,.int .i64 own,.slice A9 gr.length c9,.int .i64 lim,.int .i64 peer,.string (bs us),.slice A10 ky.length c10,.bool ex,.bool ge,.int .u32 q0,.int .u32 q1,.int .u32 q2] ad ([.func (.func 160) #[] #[.pointer (some ⟨b1,0,none⟩)],.func (.func 163) #[] #[.pointer (some ⟨b1,0,none⟩)],.func (.func 165) #[] #[.pointer (some ⟨b2,0,none⟩)],.func (.func 167) #[] #[.pointer (some ⟨b2,0,none⟩)]]) W) (hb:Below w.heap.size w W)=>show Calls Tryz.prog 160 #[.pointer (some ⟨b1,0,none⟩)] W (ErrR (unl (verL sw cm != []) [118,101,114,115,105,111,110] 1) W) from cb1_any (h.x1) hC.hsw hC.hcm)
 have K1:=hide (fun (w8 W:World) (b1 b2:Nat) (ad:Addr) (h:RowF w8 b1 b2 #[.bool true,.string (bs sw),.string (bs cm),.slice A0 n0 c0,.slice A1 n1 c1,.slice A2 n2 c2,.slice A3 n3 c3,.slice A4 n4 c4,.slice A5 n5 c5,.slice A6 n6 c6,.slice A7 n7 c7,.slice A8 al.length c8,.int .i64 own,.slice A9 gr.length c9,.int .i64 lim,.int .i64 peer,.string (bs us),.slice A10 ky.length c10,.bool ex,.bool ge,.int .u32 q0,.int .u32 q1,.int .u32 q2] ad ([.func (.func 160) #[] #[.pointer (some ⟨b1,0,none⟩)],.func (.func 163) #[] #[.pointer (some ⟨b1,0,none⟩)],.func (.func 165) #[] #[.pointer (some ⟨b2,0,none⟩)],.func (.func 167) #[] #[.pointer (some ⟨b2,0,none⟩)]]) W) (hb:Below w.heap.size w W)=>show Calls Tryz.prog 163 #[.pointer (some ⟨b1,0,none⟩)] W (ErrR (prR (prW ls)) W) from cb2_any (h.x1) (hM.below hb) (hW.below hb) (hC.hl8.below hb))
 have K2:=hide (fun (w8 W:World) (b1 b2:Nat) (ad:Addr) (h:RowF w8 b1 b2 #[.bool true,.string (bs sw),.string (bs cm),.slice A0 n0 c0,.slice A1 n1 c1,.slice A2 n2 c2,.slice A3 n3 c3,.slice A4 n4 c4,.slice A5 n5 c5,.slice A6 n6 c6,.slice A7 n7 c7,.slice A8 al.length c8,.int .i64 own,.slice A9 gr.length c9,.int .i64 lim,.int .i64 peer,.string (bs us),.slice A10 ky.length c10,.bool ex,.bool ge,.int .u32 q0,.int .u32 q1,.int .u32 q2] ad ([.func (.func 160) #[] #[.pointer (some ⟨b1,0,none⟩)],.func (.func 163) #[] #[.pointer (some ⟨b1,0,none⟩)],.func (.func 165) #[] #[.pointer (some ⟨b2,0,none⟩)],.func (.func 167) #[] #[.pointer (some ⟨b2,0,none⟩)]]) W) (hb:Below w.heap.size w W)=>show Calls Tryz.prog 165 #[.pointer (some ⟨b2,0,none⟩)] W (ErrR (unl (princL own) [111,119,110] 5) W) from cs1_any (h.x2))
 have K3:=hide (fun (w8 W:World) (b1 b2:Nat) (ad:Addr) (h:RowF w8 b1 b2 #[.bool true,.string (bs sw),.string (bs cm),.slice A0 n0 c0,.slice A1 n1 c1,.slice A2 n2 c2,.slice A3 n3 c3,.slice A4 n4 c4,.slice A5 n5 c5,.slice A6 n6 c6,.slice A7 n7 c7,.slice A8 al.length c8,.int .i64 own,.slice A9 gr.length c9,.int .i64 lim,.int .i64 peer,.string (bs us),.slice A10 ky.length c10,.bool ex,.bool ge,.int .u32 q0,.int .u32 q1,.int .u32 q2] ad ([.func (.func 160) #[] #[.pointer (some ⟨b1,0,none⟩)],.func (.func 163) #[] #[.pointer (some ⟨b1,0,none⟩)],.func (.func 165) #[] #[.pointer (some ⟨b2,0,none⟩)],.func (.func 167) #[] #[.pointer (some ⟨b2,0,none⟩)]]) W) (hb:Below w.heap.size w W)=>show Calls Tryz.prog 167 #[.pointer (some ⟨b2,0,none⟩)] W (ErrR (denyR (denyE gr al lim)) W) from cs2_any (h.x2) (hC.below hb))
 obtain ⟨e0,he0⟩:∃x,x=unl (verL sw cm != []) [118,101,114,115,105,111,110] 1:=⟨_,rfl⟩
 rw [←he0] at K0
 obtain ⟨e1,he1⟩:∃x,x=prR (prW ls):=⟨_,rfl⟩
 rw [←he1] at K1
 obtain ⟨e2,he2⟩:∃x,x=unl (princL own) [111,119,110] 5:=⟨_,rfl⟩
 rw [←he2] at K2
 obtain ⟨e3,he3⟩:∃x,x=denyR (denyE gr al lim):=⟨_,rfl⟩
 rw [←he3] at K3
 rw [←he0,← he1,← he2,← he3]
 clear he0 he1 he2 he3
 have HBo:=hide (fun (W:World)=>show Calls Tryz.prog 98 #[.agg #[.bool true,.string (bs sw),.string (bs cm),.slice A0 n0 c0,.slice A1 n1 c1,.slice A2 n2 c2,.slice A3 n3 c3,.slice A4 n4 c4,.slice A5 n5 c5,.slice A6 n6 c6,.slice A7 n7 c7,.slice A8 al.length c8,.int .i64 own,.slice A9 gr.length c9,.int .i64 lim,.int .i64 peer,.string (bs us),.slice A10 ky.length c10,.bool ex,.bool ge,.int .u32 q0,.int .u32 q1,.int .u32 q2]] W (fun e w'=>e=.returned (.slice (some ⟨W.heap.size+1,0,none⟩) 2 2)∧Below W.heap.size W w'∧Blk w' W.heap.size 30 #[.bool true,.string (bs sw),.string (bs cm),.slice A0 n0 c0,.slice A1 n1 c1,.slice A2 n2 c2,.slice A3 n3 c3,.slice A4 n4 c4,.slice A5 n5 c5,.slice A6 n6 c6,.slice A7 n7 c7,.slice A8 al.length c8,.int .i64 own,.slice A9 gr.length c9,.int .i64 lim,.int .i64 peer,.string (bs us),.slice A10 ky.length c10,.bool ex,.bool ge,.int .u32 q0,.int .u32 q1,.int .u32 q2]∧Blk w' (W.heap.size+1) 187 #[.func (.func 160) #[] #[.pointer (some ⟨W.heap.size,0,none⟩)],.func (.func 163) #[] #[.pointer (some ⟨W.heap.size,0,none⟩)]]) from both_any W)
 have HSe:=hide (fun (W:World)=>show Calls Tryz.prog 99 #[.agg #[.bool true,.string (bs sw),.string (bs cm),.slice A0 n0 c0,.slice A1 n1 c1,.slice A2 n2 c2,.slice A3 n3 c3,.slice A4 n4 c4,.slice A5 n5 c5,.slice A6 n6 c6,.slice A7 n7 c7,.slice A8 al.length c8,.int .i64 own,.slice A9 gr.length c9,.int .i64 lim,.int .i64 peer,.string (bs us),.slice A10 ky.length c10,.bool ex,.bool ge,.int .u32 q0,.int .u32 q1,.int .u32 q2]] W (fun e w'=>e=.returned (.slice (some ⟨W.heap.size+1,0,none⟩) 2 2)∧Below W.heap.size W w'∧Blk w' W.heap.size 30 #[.bool true,.string (bs sw),.string (bs cm),.slice A0 n0 c0,.slice A1 n1 c1,.slice A2 n2 c2,.slice A3 n3 c3,.slice A4 n4 c4,.slice A5 n5 c5,.slice A6 n6 c6,.slice A7 n7 c7,.slice A8 al.length c8,.int .i64 own,.slice A9 gr.length c9,.int .i64 lim,.int .i64 peer,.string (bs us),.slice A10 ky.length c10,.bool ex,.bool ge,.int .u32 q0,.int .u32 q1,.int .u32 q2]∧Blk w' (W.heap.size+1) 187 #[.func (.func 165) #[] #[.pointer (some ⟨W.heap.size,0,none⟩)],.func (.func 167) #[] #[.pointer (some ⟨W.heap.size,0,none⟩)]]) from server_any W)
 have HX:=hide (And.intro hb0 hX0)
 have hlt0:=hX0.lt
 have z0:=hX0.cell 0
 simp only [List.getElem?_toArray,List.getElem?_cons_zero] at z0
 have HT:=hide (fun (W:World) (s:ByteArray) (b:Nat) (ps:List (List UInt8)) (k:Int) (h:IsErr W (errV b) ps k)=>fat_any s b h)
 obtain ⟨iC,hiC,hC0,hC1,hC2⟩:=info_partsN infoCk
 clear hM hW hC hb0
 generalize hcv:(#[.bool true,.string (bs sw),.string (bs cm),.slice A0 n0 c0,.slice A1 n1 c1,.slice A2 n2 c2,.slice A3 n3 c3,.slice A4 n4 c4,.slice A5 n5 c5,.slice A6 n6 c6,.slice A7 n7 c7,.slice A8 al.length c8,.int .i64 own,.slice A9 gr.length c9,.int .i64 lim,.int .i64 peer,.string (bs us),.slice A10 ky.length c10,.bool ex,.bool ge,.int .u32 q0,.int .u32 q1,.int .u32 q2]:Array Value)=cv at K0 HBo HSe HX hX0 hW0 ⊢ K1 K2 K3
 have hcl:cv.toList.length=23:=by rw [←hcv];rfl
 clear hcv
 go_enter Tryz.func58,Tryz.ntmps58
 go_upto_region 1 with fail
 rw [←hW0]
 clear hW0
 refine wp_region_lit ?_
 refine wpList_load_confA rfl (.tmp 1) rfl (by rfl) HX.out.2 hcl ?_
 go_upto_region 3 with (first | (go_at_call 98;refine (HBo.out _).mono ?_;rintro e w1 ⟨rfl,hb1,hX1,hF1⟩;have z1:=(hb1.cell (p:=⟨w.heap.size,0,none⟩) hlt0).trans z0) | fail)
 have hsz0:=HX.out.1.size
 have hown1:=own_blkC (b:=w.heap.size) (n:=2) hF1 (by omega) rfl (by unfold maxLen;omega)
 have hX01:=HX.out.2.below hb1 hlt0
 have hlt1:=hX1.lt
 refine wp_region_lit ?_
 refine wpList_move_ rfl (.tmp 3) rfl ?_
 refine wpList_load_confA rfl (.tmp 1) rfl (by rfl) hX01 hcl ?_
 go_wp2_with (first | (go_at_call 99;refine (HSe.out _).mono ?_;rintro e w2 ⟨rfl,hb2,hX2,hF2⟩;rename_i hKK;have hown2:=own_belowN hown1 hb2;have hX12:=hX1.below hb2 hX1.lt;have hsz2:=hb2.size;dsimp only;refine hKK _ _ ?_;refine wpList_append_any _ rfl (.tmp 11) (.tmp 13) _ rfl w.heap.size 187 iC .nilFunc 1 8 Tryz.underlying184 hiC hC0 hC1 hC2 rfl (by decide) (.slice (some ⟨W0.heap.size+1,0,none⟩) 2 2) 2 _ rfl hown2 _ (some ⟨w1.heap.size+1,0,none⟩) 2 2 [.func (.func 165) #[] #[.pointer (some ⟨w1.heap.size,0,none⟩)],.func (.func 167) #[] #[.pointer (some ⟨w1.heap.size,0,none⟩)]] rfl (reads_blkN hF2 rfl) (by simp [Value.oneCell']) (by unfold maxLen;omega) (by omega) (by omega) ?_;intro v8 w8 hown8 hgr8 hor8;obtain ⟨A8',c8',rfl⟩:=own_slN hown8;simp only [Nat.reduceAdd] at hown8 hgr8 hor8 ⊢) | fail)
 obtain ⟨_,hR8⟩:=Reads.of_own hown8
 obtain ⟨ad,hAd,hlt8,hat8⟩:=hR8 (by decide)
 subst hAd
 have hgr9:w2.grownBy w8 (some (W0.heap.size+1)):=hgr8
 have hf1:=hF1.lt
 have hX12:=hX1.below hb2 hlt1
 have hl12:=hX12.lt
 have hl2:=hX2.lt
 have HB8:=hide (show Below w.heap.size w w8 from ((HX.out.1.trans (hb1.mono hsz0)).trans (hb2.mono (by omega))).grown hgr9 (by omega) (fun b hb=>by
  have:=Option.some.inj hb
  omega))
 have HR8:=hide (show RowF w8 W0.heap.size w1.heap.size cv ad [.func (.func 160) #[] #[.pointer (some ⟨W0.heap.size,0,none⟩)],.func (.func 163) #[] #[.pointer (some ⟨W0.heap.size,0,none⟩)],.func (.func 165) #[] #[.pointer (some ⟨w1.heap.size,0,none⟩)],.func (.func 167) #[] #[.pointer (some ⟨w1.heap.size,0,none⟩)]] w8 from ⟨Below.refl _ _,hX12.grown hgr9 (fun e=>by have:=Option.some.inj e;omega),hX2.grown hgr9 (fun e=>by have:=Option.some.inj e;omega),hlt8,fun k u hu=>hat8 k u hu⟩)
 generalize W0.heap.size=b1 at HR8
 generalize w1.heap.size=b2 at HR8
 clear hown8 hgr8 hor8 hR8 hlt8 hat8 hf1 hgr9 hl12 hl2 hX12 hX1 hF1 hX2 hF2 hb1 hb2 hX0 hX01 hown1 z0 z1 HBo HSe HX hlt0 hlt1 hsz0 hsz2
 go_loopw [21] (fun i wr=>(∃k:Nat,k≤4∧i=.int .i64 k∧Hid (fstE [e0,e1,e2,e3]=fstE ([e0,e1,e2,e3].drop k)))∧Hid (RowF w8 b1 b2 cv ad [.func (.func 160) #[] #[.pointer (some ⟨b1,0,none⟩)],.func (.func 163) #[] #[.pointer (some ⟨b1,0,none⟩)],.func (.func 165) #[] #[.pointer (some ⟨b2,0,none⟩)],.func (.func 167) #[] #[.pointer (some ⟨b2,0,none⟩)]] wr)) (fun i _=>4 - (intOf i).toNat)
 case atStart=>exact ⟨⟨0,Nat.zero_le _,rfl,hide rfl⟩,HR8⟩
 case round =>
  obtain ⟨⟨k,hk,rfl,H⟩,HB⟩:=hrel
  have HBW:=hide (HB8.out.trans (HB.out.bel.mono HB8.out.size))
  match k,hk with
  | 0,_ =>
   have hc:=HB.out.at_ 0 _ rfl
   have hc2:=hc
   rw [add_nil_] at hc2
   have HK:=hide (K0.out w8 wr b1 b2 ad HB.out HBW.out)
   rcases or_opt e0 with he | ⟨⟨ps,kk⟩,he⟩
   ·have H2:=hide (show fstE [e0,e1,e2,e3]=fstE ([e0,e1,e2,e3].drop 1) from H.out.trans (by show fstE (e0 :: [e1,e2,e3])=_;rw [he];rfl))
    rw [he] at HK
    have HK2:=hide (errR_none HK.out)
    clear H HK he
    go_wp2_with (first | (go_at_call 160;refine HK2.out.mono ?_;rintro e w3 ⟨rfl,hb3⟩) | fail)
    have HB3:=hide (HB.out.below hb3)
    go_roundw
    case rel=>exact ⟨⟨1,by decide,by go_num,H2⟩,HB3⟩
    case measure=>simp [intOf]
   ·have E:=hide (show inC (fstE [e0,e1,e2,e3])=some ([99,111,110,102] :: ps,kk) from by rw [H.out];show inC (fstE (e0 :: [e1,e2,e3]))=_;rw [he];rfl)
    rw [he] at HK
    have HK2:=hide (errR_some HK.out)
    unfold errV at HK2
    clear H HK he
    go_wp2_with (first | (go_at_call 160;refine HK2.out.mono ?_;rintro e w3 ⟨b,rfl,hi,hb3⟩;have HT2:=hide (HT.out _ ⟨#[99,111,110,102]⟩ b _ _ hi);unfold errV at HT2) | (go_at_call 42;refine HT2.out.mono ?_;rintro e w5 ⟨b2,rfl,hi2,hb5⟩) | fail)
    go_ret
    have hb35:=hb3.trans (hb5.mono hb3.size)
    exact errR_s E.out (HBW.out.trans (hb35.mono HBW.out.size)) rfl hi2
  | 1,_ =>
   have hc:=HB.out.at_ 1 _ rfl
   have hc2:wr.cell? ⟨ad.block,ad.off+1,none⟩=some (.func (.func 163) #[] #[.pointer (some ⟨b1,0,none⟩)]):=by rw [←show ad.add 1=⟨ad.block,ad.off+1,none⟩ from by simp [Addr.add]];exact hc
   have HK:=hide (K1.out w8 wr b1 b2 ad HB.out HBW.out)
   rcases or_opt e1 with he | ⟨⟨ps,kk⟩,he⟩
   ·have H2:=hide (show fstE [e0,e1,e2,e3]=fstE ([e0,e1,e2,e3].drop 2) from H.out.trans (by show fstE (e1 :: [e2,e3])=_;rw [he];rfl))
    rw [he] at HK
    have HK2:=hide (errR_none HK.out)
    clear H HK he
    go_wp2_with (first | (go_at_call 163;refine HK2.out.mono ?_;rintro e w3 ⟨rfl,hb3⟩) | fail)
    have HB3:=hide (HB.out.below hb3)
    go_roundw
    case rel=>exact ⟨⟨2,by decide,by go_num,H2⟩,HB3⟩
    case measure=>simp [intOf]
   ·have E:=hide (show inC (fstE [e0,e1,e2,e3])=some ([99,111,110,102] :: ps,kk) from by rw [H.out];show inC (fstE (e1 :: [e2,e3]))=_;rw [he];rfl)
    rw [he] at HK
    have HK2:=hide (errR_some HK.out)
    unfold errV at HK2
    clear H HK he
    go_wp2_with (first | (go_at_call 163;refine HK2.out.mono ?_;rintro e w3 ⟨b,rfl,hi,hb3⟩;have HT2:=hide (HT.out _ ⟨#[99,111,110,102]⟩ b _ _ hi);unfold errV at HT2) | (go_at_call 42;refine HT2.out.mono ?_;rintro e w5 ⟨b2,rfl,hi2,hb5⟩) | fail)
    go_ret
    have hb35:=hb3.trans (hb5.mono hb3.size)
    exact errR_s E.out (HBW.out.trans (hb35.mono HBW.out.size)) rfl hi2
  | 2,_ =>
   have hc:=HB.out.at_ 2 _ rfl
   have hc2:wr.cell? ⟨ad.block,ad.off+2,none⟩=some (.func (.func 165) #[] #[.pointer (some ⟨b2,0,none⟩)]):=by rw [←show ad.add 2=⟨ad.block,ad.off+2,none⟩ from by simp [Addr.add]];exact hc
   have HK:=hide (K2.out w8 wr b1 b2 ad HB.out HBW.out)
   rcases or_opt e2 with he | ⟨⟨ps,kk⟩,he⟩
   ·have H2:=hide (show fstE [e0,e1,e2,e3]=fstE ([e0,e1,e2,e3].drop 3) from H.out.trans (by show fstE (e2 :: [e3])=_;rw [he];rfl))
    rw [he] at HK
    have HK2:=hide (errR_none HK.out)
    clear H HK he
    go_wp2_with (first | (go_at_call 165;refine HK2.out.mono ?_;rintro e w3 ⟨rfl,hb3⟩) | fail)
    have HB3:=hide (HB.out.below hb3)
    go_roundw
    case rel=>exact ⟨⟨3,by decide,by go_num,H2⟩,HB3⟩
    case measure=>simp [intOf]
   ·have E:=hide (show inC (fstE [e0,e1,e2,e3])=some ([99,111,110,102] :: ps,kk) from by rw [H.out];show inC (fstE (e2 :: [e3]))=_;rw [he];rfl)
    rw [he] at HK
    have HK2:=hide (errR_some HK.out)
    unfold errV at HK2
    clear H HK he
    go_wp2_with (first | (go_at_call 165;refine HK2.out.mono ?_;rintro e w3 ⟨b,rfl,hi,hb3⟩;have HT2:=hide (HT.out _ ⟨#[99,111,110,102]⟩ b _ _ hi);unfold errV at HT2) | (go_at_call 42;refine HT2.out.mono ?_;rintro e w5 ⟨b2,rfl,hi2,hb5⟩) | fail)
    go_ret
    have hb35:=hb3.trans (hb5.mono hb3.size)
    exact errR_s E.out (HBW.out.trans (hb35.mono HBW.out.size)) rfl hi2
  | 3,_ =>
   have hc:=HB.out.at_ 3 _ rfl
   have hc2:wr.cell? ⟨ad.block,ad.off+3,none⟩=some (.func (.func 167) #[] #[.pointer (some ⟨b2,0,none⟩)]):=by rw [←show ad.add 3=⟨ad.block,ad.off+3,none⟩ from by simp [Addr.add]];exact hc
   have HK:=hide (K3.out w8 wr b1 b2 ad HB.out HBW.out)
   rcases or_opt e3 with he | ⟨⟨ps,kk⟩,he⟩
   ·have H2:=hide (show fstE [e0,e1,e2,e3]=fstE ([e0,e1,e2,e3].drop 4) from H.out.trans (by show fstE (e3 :: [])=_;rw [he];rfl))
    rw [he] at HK
    have HK2:=hide (errR_none HK.out)
    clear H HK he
    go_wp2_with (first | (go_at_call 167;refine HK2.out.mono ?_;rintro e w3 ⟨rfl,hb3⟩) | fail)
    have HB3:=hide (HB.out.below hb3)
    go_roundw
    case rel=>exact ⟨⟨4,by decide,by go_num,H2⟩,HB3⟩
    case measure=>simp [intOf]
   ·have E:=hide (show inC (fstE [e0,e1,e2,e3])=some ([99,111,110,102] :: ps,kk) from by rw [H.out];show inC (fstE (e3 :: []))=_;rw [he];rfl)
    rw [he] at HK
    have HK2:=hide (errR_some HK.out)
    unfold errV at HK2
    clear H HK he
    go_wp2_with (first | (go_at_call 167;refine HK2.out.mono ?_;rintro e w3 ⟨b,rfl,hi,hb3⟩;have HT2:=hide (HT.out _ ⟨#[99,111,110,102]⟩ b _ _ hi);unfold errV at HT2) | (go_at_call 42;refine HT2.out.mono ?_;rintro e w5 ⟨b2,rfl,hi2,hb5⟩) | fail)
    go_ret
    have hb35:=hb3.trans (hb5.mono hb3.size)
    exact errR_s E.out (HBW.out.trans (hb35.mono HBW.out.size)) rfl hi2
  | 4,_ =>
   have E:=hide (show inC (fstE [e0,e1,e2,e3])=none from by rw [H.out];rfl)
   clear H
   go_wp2_with fail
   go_ret
   exact errR_n E.out HBW.out rfl
theorem check_c {ex ge:Bool} {sw cm us:List UInt8} {A0 A1 A2 A3 A4 A5 A6 A7 A8 A9 A10:Option Addr} {n0 n1 n2 n3 n4 n5 n6 n7 c0 c1 c2 c3 c4 c5 c6 c7 c8 c9 c10:Nat} {al:List (List UInt8)} {own lim peer q0 q1 q2:Int} {gr:List (List UInt8 × Int)} {ky:List Int} {ls:List (List (List UInt8))} (hM:MethV w) (hW:WordV w) (hC:CfM w sw cm us [.slice A0 n0 c0,.slice A1 n1 c1,.slice A2 n2 c2,.slice A3 n3 c3,.slice A4 n4 c4,.slice A5 n5 c5,.slice A6 n6 c6,.slice A7 n7 c7] ls A8 c8 al A9 gr A10 ky) :
  Calls Tryz.prog 58 #[.agg #[.bool false,.string (bs sw),.string (bs cm),.slice A0 n0 c0,.slice A1 n1 c1,.slice A2 n2 c2,.slice A3 n3 c3,.slice A4 n4 c4,.slice A5 n5 c5,.slice A6 n6 c6,.slice A7 n7 c7,.slice A8 al.length c8,.int .i64 own,.slice A9 gr.length c9,.int .i64 lim,.int .i64 peer,.string (bs us),.slice A10 ky.length c10,.bool ex,.bool ge,.int .u32 q0,.int .u32 q1,.int .u32 q2]] w (ErrR (inC (fstE [unl (verL sw cm != []) [118,101,114,115,105,111,110] 1,prR (prW ls),unl (princL peer) [112,101,101,114] 5,unl (userL us) [117,115,101,114] 3,keyE ky,denyR (denyE [] al 1),unl (groupL q0 q1 q2) [119,105,115,104] 5])) w):=by
 obtain ⟨W0,hW0⟩:∃W0,W0=w.alloc (.cells #[.bool false,.string (bs sw),.string (bs cm),.slice A0 n0 c0,.slice A1 n1 c1,.slice A2 n2 c2,.slice A3 n3 c3,.slice A4 n4 c4,.slice A5 n5 c5,.slice A6 n6 c6,.slice A7 n7 c7,.slice A8 al.length c8,.int .i64 own,.slice A9 gr.length c9,.int .i64 lim,.int .i64 peer,.string (bs us),.slice A10 ky.length c10,.bool ex,.bool ge,.int .u32 q0,.int .u32 q1,.int .u32 q2] 30):=⟨_,rfl⟩
 have hb0:Below w.heap.size w W0:=by rw [hW0];exact bel_by
 have hX0:Blk W0 w.heap.size 30 #[.bool false,.string (bs sw),.string (bs cm),.slice A0 n0 c0,.slice A1 n1 c1,.slice A2 n2 c2,.slice A3 n3 c3,.slice A4 n4 c4,.slice A5 n5 c5,.slice A6 n6 c6,.slice A7 n7 c7,.slice A8 al.length c8,.int .i64 own,.slice A9 gr.length c9,.int .i64 lim,.int .i64 peer,.string (bs us),.slice A10 ky.length c10,.bool ex,.bool ge,.int .u32 q0,.int .u32 q1,.int .u32 q2]:=by rw [hW0];exact Blk.new w _ _
 have K0:=hide (fun (w8 W:World) (b1 b2:Nat) (ad:Addr) (h:RowF w8 b1 b2 #[.bool false,.string (bs sw),.string (bs cm),.slice A0 n0 c0,.slice A1 n1 c1,.slice A2 n2 c2,.slice A3 n3 c3,.slice A4 n4 c4,.slice A5 n5 c5,.slice A6 n6 c6,.slice A7 n7 c7,.slice A8 al.length c8,.int .i64 own,.slice A9 gr.length c9,.int .i64 lim,.int .i64 peer,.string (bs us),.slice A10 ky.length c10,.bool ex,.bool ge,.int .u32 q0,.int .u32 q1,.int .u32 q2] ad ([.func (.func 160) #[] #[.pointer (some ⟨b1,0,none⟩)],.func (.func 163) #[] #[.pointer (some ⟨b1,0,none⟩)],.func (.func 168) #[] #[.pointer (some ⟨b2,0,none⟩)],.func (.func 169) #[] #[.pointer (some ⟨b2,0,none⟩)],.func (.func 171) #[] #[.pointer (some ⟨b2,0,none⟩)],.func (.func 173) #[] #[.pointer (some ⟨b2,0,none⟩)],.func (.func 174) #[] #[.pointer (some ⟨b2,0,none⟩)]]) W) (hb:Below w.heap.size w W)=>show Calls Tryz.prog 160 #[.pointer (some ⟨b1,0,none⟩)] W (ErrR (unl (verL sw cm != []) [118,101,114,115,105,111,110] 1) W) from cb1_any (h.x1) hC.hsw hC.hcm)
 have K1:=hide (fun (w8 W:World) (b1 b2:Nat) (ad:Addr) (h:RowF w8 b1 b2 #[.bool false,.string (bs sw),.string (bs cm),.slice A0 n0 c0,.slice A1 n1 c1,.slice A2 n2 c2,.slice A3 n3 c3,.slice A4 n4 c4,.slice A5 n5 c5,.slice A6 n6 c6,.slice A7 n7 c7,.slice A8 al.length c8,.int .i64 own,.slice A9 gr.length c9,.int .i64 lim,.int .i64 peer,.string (bs us),.slice A10 ky.length c10,.bool ex,.bool ge,.int .u32 q0,.int .u32 q1,.int .u32 q2] ad ([.func (.func 160) #[] #[.pointer (some ⟨b1,0,none⟩)],.func (.func 163) #[] #[.pointer (some ⟨b1,0,none⟩)],.func (.func 168) #[] #[.pointer (some ⟨b2,0,none⟩)],.func (.func 169) #[] #[.pointer (some ⟨b2,0,none⟩)],.func (.func 171) #[] #[.pointer (some ⟨b2,0,none⟩)],.func (.func 173) #[] #[.pointer (some ⟨b2,0,none⟩)],.func (.func 174) #[] #[.pointer (some ⟨b2,0,none⟩)]]) W) (hb:Below w.heap.size w W)=>show Calls Tryz.prog 163 #[.pointer (some ⟨b1,0,none⟩)] W (ErrR (prR (prW ls)) W) from cb2_any (h.x1) (hM.below hb) (hW.below hb) (hC.hl8.below hb))
 have K2:=hide (fun (w8 W:World) (b1 b2:Nat) (ad:Addr) (h:RowF w8 b1 b2 #[.bool false,.string (bs sw),.string (bs cm),.slice A0 n0 c0,.slice A1 n1 c1,.slice A2 n2 c2,.slice A3 n3 c3,.slice A4 n4 c4,.slice A5 n5 c5,.slice A6 n6 c6,.slice A7 n7 c7,.slice A8 al.length c8,.int .i64 own,.slice A9 gr.length c9,.int .i64 lim,.int .i64 peer,.string (bs us),.slice A10 ky.length c10,.bool ex,.bool ge,.int .u32 q0,.int .u32 q1,.int .u32 q2] ad ([.func (.func 160) #[] #[.pointer (some ⟨b1,0,none⟩)],.func (.func 163) #[] #[.pointer (some ⟨b1,0,none⟩)],.func (.func 168) #[] #[.pointer (some ⟨b2,0,none⟩)],.func (.func 169) #[] #[.pointer (some ⟨b2,0,none⟩)],.func (.func 171) #[] #[.pointer (some ⟨b2,0,none⟩)],.func (.func 173) #[] #[.pointer (some ⟨b2,0,none⟩)],.func (.func 174) #[] #[.pointer (some ⟨b2,0,none⟩)]]) W) (hb:Below w.heap.size w W)=>show Calls Tryz.prog 168 #[.pointer (some ⟨b2,0,none⟩)] W (ErrR (unl (princL peer) [112,101,101,114] 5) W) from cc1_any (h.x2))
 have K3:=hide (fun (w8 W:World) (b1 b2:Nat) (ad:Addr) (h:RowF w8 b1 b2 #[.bool false,.string (bs sw),.string (bs cm),.slice A0 n0 c0,.slice A1 n1 c1,.slice A2 n2 c2,.slice A3 n3 c3,.slice A4 n4 c4,.slice A5 n5 c5,.slice A6 n6 c6,.slice A7 n7 c7,.slice A8 al.length c8,.int .i64 own,.slice A9 gr.length c9,.int .i64 lim,.int .i64 peer,.string (bs us),.slice A10 ky.length c10,.bool ex,.bool ge,.int .u32 q0,.int .u32 q1,.int .u32 q2] ad ([.func (.func 160) #[] #[.pointer (some ⟨b1,0,none⟩)],.func (.func 163) #[] #[.pointer (some ⟨b1,0,none⟩)],.func (.func 168) #[] #[.pointer (some ⟨b2,0,none⟩)],.func (.func 169) #[] #[.pointer (some ⟨b2,0,none⟩)],.func (.func 171) #[] #[.pointer (some ⟨b2,0,none⟩)],.func (.func 173) #[] #[.pointer (some ⟨b2,0,none⟩)],.func (.func 174) #[] #[.pointer (some ⟨b2,0,none⟩)]]) W) (hb:Below w.heap.size w W)=>show Calls Tryz.prog 169 #[.pointer (some ⟨b2,0,none⟩)] W (ErrR (unl (userL us) [117,115,101,114] 3) W) from cc2_any (h.x2) hC.hus)
 have K4:=hide (fun (w8 W:World) (b1 b2:Nat) (ad:Addr) (h:RowF w8 b1 b2 #[.bool false,.string (bs sw),.string (bs cm),.slice A0 n0 c0,.slice A1 n1 c1,.slice A2 n2 c2,.slice A3 n3 c3,.slice A4 n4 c4,.slice A5 n5 c5,.slice A6 n6 c6,.slice A7 n7 c7,.slice A8 al.length c8,.int .i64 own,.slice A9 gr.length c9,.int .i64 lim,.int .i64 peer,.string (bs us),.slice A10 ky.length c10,.bool ex,.bool ge,.int .u32 q0,.int .u32 q1,.int .u32 q2] ad ([.func (.func 160) #[] #[.pointer (some ⟨b1,0,none⟩)],.func (.func 163) #[] #[.pointer (some ⟨b1,0,none⟩)],.func (.func 168) #[] #[.pointer (some ⟨b2,0,none⟩)],.func (.func 169) #[] #[.pointer (some ⟨b2,0,none⟩)],.func (.func 171) #[] #[.pointer (some ⟨b2,0,none⟩)],.func (.func 173) #[] #[.pointer (some ⟨b2,0,none⟩)],.func (.func 174) #[] #[.pointer (some ⟨b2,0,none⟩)]]) W) (hb:Below w.heap.size w W)=>show Calls Tryz.prog 171 #[.pointer (some ⟨b2,0,none⟩)] W (ErrR (keyE ky) W) from cc3_any (h.x2) (hC.below hb))
 have K5:=hide (fun (w8 W:World) (b1 b2:Nat) (ad:Addr) (h:RowF w8 b1 b2 #[.bool false,.string (bs sw),.string (bs cm),.slice A0 n0 c0,.slice A1 n1 c1,.slice A2 n2 c2,.slice A3 n3 c3,.slice A4 n4 c4,.slice A5 n5 c5,.slice A6 n6 c6,.slice A7 n7 c7,.slice A8 al.length c8,.int .i64 own,.slice A9 gr.length c9,.int .i64 lim,.int .i64 peer,.string (bs us),.slice A10 ky.length c10,.bool ex,.bool ge,.int .u32 q0,.int .u32 q1,.int .u32 q2] ad ([.func (.func 160) #[] #[.pointer (some ⟨b1,0,none⟩)],.func (.func 163) #[] #[.pointer (some ⟨b1,0,none⟩)],.func (.func 168) #[] #[.pointer (some ⟨b2,0,none⟩)],.func (.func 169) #[] #[.pointer (some ⟨b2,0,none⟩)],.func (.func 171) #[] #[.pointer (some ⟨b2,0,none⟩)],.func (.func 173) #[] #[.pointer (some ⟨b2,0,none⟩)],.func (.func 174) #[] #[.pointer (some ⟨b2,0,none⟩)]]) W) (hb:Below w.heap.size w W)=>show Calls Tryz.prog 173 #[.pointer (some ⟨b2,0,none⟩)] W (ErrR (denyR (denyE [] al 1)) W) from cc4_any (h.x2) (hC.below hb))
 have K6:=hide (fun (w8 W:World) (b1 b2:Nat) (ad:Addr) (h:RowF w8 b1 b2 #[.bool false,.string (bs sw),.string (bs cm),.slice A0 n0 c0,.slice A1 n1 c1,.slice A2 n2 c2,.slice A3 n3 c3,.slice A4 n4 c4,.slice A5 n5 c5,.slice A6 n6 c6,.slice A7 n7 c7,.slice A8 al.length c8,.int .i64 own,.slice A9 gr.length c9,.int .i64 lim,.int .i64 peer,.string (bs us),.slice A10 ky.length c10,.bool ex,.bool ge,.int .u32 q0,.int .u32 q1,.int .u32 q2] ad ([.func (.func 160) #[] #[.pointer (some ⟨b1,0,none⟩)],.func (.func 163) #[] #[.pointer (some ⟨b1,0,none⟩)],.func (.func 168) #[] #[.pointer (some ⟨b2,0,none⟩)],.func (.func 169) #[] #[.pointer (some ⟨b2,0,none⟩)],.func (.func 171) #[] #[.pointer (some ⟨b2,0,none⟩)],.func (.func 173) #[] #[.pointer (some ⟨b2,0,none⟩)],.func (.func 174) #[] #[.pointer (some ⟨b2,0,none⟩)]]) W) (hb:Below w.heap.size w W)=>show Calls Tryz.prog 174 #[.pointer (some ⟨b2,0,none⟩)] W (ErrR (unl (groupL q0 q1 q2) [119,105,115,104] 5) W) from cc5_any (h.x2))
 obtain ⟨e0,he0⟩:∃x,x=unl (verL sw cm != []) [118,101,114,115,105,111,110] 1:=⟨_,rfl⟩
 rw [←he0] at K0
 obtain ⟨e1,he1⟩:∃x,x=prR (prW ls):=⟨_,rfl⟩
 rw [←he1] at K1
 obtain ⟨e2,he2⟩:∃x,x=unl (princL peer) [112,101,101,114] 5:=⟨_,rfl⟩
 rw [←he2] at K2
 obtain ⟨e3,he3⟩:∃x,x=unl (userL us) [117,115,101,114] 3:=⟨_,rfl⟩
 rw [←he3] at K3
 obtain ⟨e4,he4⟩:∃x,x=keyE ky:=⟨_,rfl⟩
 rw [←he4] at K4
 obtain ⟨e5,he5⟩:∃x,x=denyR (denyE [] al 1):=⟨_,rfl⟩
 rw [←he5] at K5
 obtain ⟨e6,he6⟩:∃x,x=unl (groupL q0 q1 q2) [119,105,115,104] 5:=⟨_,rfl⟩
 rw [←he6] at K6
 rw [←he0,← he1,← he2,← he3,← he4,← he5,← he6]
 clear he0 he1 he2 he3 he4 he5 he6
 have HBo:=hide (fun (W:World)=>show Calls Tryz.prog 98 #[.agg #[.bool false,.string (bs sw),.string (bs cm),.slice A0 n0 c0,.slice A1 n1 c1,.slice A2 n2 c2,.slice A3 n3 c3,.slice A4 n4 c4,.slice A5 n5 c5,.slice A6 n6 c6,.slice A7 n7 c7,.slice A8 al.length c8,.int .i64 own,.slice A9 gr.length c9,.int .i64 lim,.int .i64 peer,.string (bs us),.slice A10 ky.length c10,.bool ex,.bool ge,.int .u32 q0,.int .u32 q1,.int .u32 q2]] W (fun e w'=>e=.returned (.slice (some ⟨W.heap.size+1,0,none⟩) 2 2)∧Below W.heap.size W w'∧Blk w' W.heap.size 30 #[.bool false,.string (bs sw),.string (bs cm),.slice A0 n0 c0,.slice A1 n1 c1,.slice A2 n2 c2,.slice A3 n3 c3,.slice A4 n4 c4,.slice A5 n5 c5,.slice A6 n6 c6,.slice A7 n7 c7,.slice A8 al.length c8,.int .i64 own,.slice A9 gr.length c9,.int .i64 lim,.int .i64 peer,.string (bs us),.slice A10 ky.length c10,.bool ex,.bool ge,.int .u32 q0,.int .u32 q1,.int .u32 q2]∧Blk w' (W.heap.size+1) 187 #[.func (.func 160) #[] #[.pointer (some ⟨W.heap.size,0,none⟩)],.func (.func 163) #[] #[.pointer (some ⟨W.heap.size,0,none⟩)]]) from both_any W)
 have HSe:=hide (fun (W:World)=>show Calls Tryz.prog 100 #[.agg #[.bool false,.string (bs sw),.string (bs cm),.slice A0 n0 c0,.slice A1 n1 c1,.slice A2 n2 c2,.slice A3 n3 c3,.slice A4 n4 c4,.slice A5 n5 c5,.slice A6 n6 c6,.slice A7 n7 c7,.slice A8 al.length c8,.int .i64 own,.slice A9 gr.length c9,.int .i64 lim,.int .i64 peer,.string (bs us),.slice A10 ky.length c10,.bool ex,.bool ge,.int .u32 q0,.int .u32 q1,.int .u32 q2]] W (fun e w'=>e=.returned (.slice (some ⟨W.heap.size+1,0,none⟩) 5 5)∧Below W.heap.size W w'∧Blk w' W.heap.size 30 #[.bool false,.string (bs sw),.string (bs cm),.slice A0 n0 c0,.slice A1 n1 c1,.slice A2 n2 c2,.slice A3 n3 c3,.slice A4 n4 c4,.slice A5 n5 c5,.slice A6 n6 c6,.slice A7 n7 c7,.slice A8 al.length c8,.int .i64 own,.slice A9 gr.length c9,.int .i64 lim,.int .i64 peer,.string (bs us),.slice A10 ky.length c10,.bool ex,.bool ge,.int .u32 q0,.int .u32 q1,.int .u32 q2]∧Blk w' (W.heap.size+1) 187 #[.func (.func 168) #[] #[.pointer (some ⟨W.heap.size,0,none⟩)],.func (.func 169) #[] #[.pointer (some ⟨W.heap.size,0,none⟩)],.func (.func 171) #[] #[.pointer (some ⟨W.heap.size,0,none⟩)],.func (.func 173) #[] #[.pointer (some ⟨W.heap.size,0,none⟩)],.func (.func 174) #[] #[.pointer (some ⟨W.heap.size,0,none⟩)]]) from client_any W)
 have HX:=hide (And.intro hb0 hX0)
 have hlt0:=hX0.lt
 have z0:=hX0.cell 0
 simp only [List.getElem?_toArray,List.getElem?_cons_zero] at z0
 have HT:=hide (fun (W:World) (s:ByteArray) (b:Nat) (ps:List (List UInt8)) (k:Int) (h:IsErr W (errV b) ps k)=>fat_any s b h)
 obtain ⟨iC,hiC,hC0,hC1,hC2⟩:=info_partsN infoCk
 clear hM hW hC hb0
 generalize hcv:(#[.bool false,.string (bs sw),.string (bs cm),.slice A0 n0 c0,.slice A1 n1 c1,.slice A2 n2 c2,.slice A3 n3 c3,.slice A4 n4 c4,.slice A5 n5 c5,.slice A6 n6 c6,.slice A7 n7 c7,.slice A8 al.length c8,.int .i64 own,.slice A9 gr.length c9,.int .i64 lim,.int .i64 peer,.string (bs us),.slice A10 ky.length c10,.bool ex,.bool ge,.int .u32 q0,.int .u32 q1,.int .u32 q2]:Array Value)=cv at K0 HBo HSe HX hX0 hW0 ⊢ K1 K2 K3 K4 K5 K6
 have hcl:cv.toList.length=23:=by rw [←hcv];rfl
 clear hcv
 go_enter Tryz.func58,Tryz.ntmps58
 go_upto_region 1 with fail
 rw [←hW0]
 clear hW0
 refine wp_region_lit ?_
 refine wpList_load_confA rfl (.tmp 1) rfl (by rfl) HX.out.2 hcl ?_
 go_upto_region 4 with (first | (go_at_call 98;refine (HBo.out _).mono ?_;rintro e w1 ⟨rfl,hb1,hX1,hF1⟩;have z1:=(hb1.cell (p:=⟨w.heap.size,0,none⟩) hlt0).trans z0) | fail)
 have hsz0:=HX.out.1.size
 have hown1:=own_blkC (b:=w.heap.size) (n:=2) hF1 (by omega) rfl (by unfold maxLen;omega)
 have hX01:=HX.out.2.below hb1 hlt0
 have hlt1:=hX1.lt
 refine wp_region_lit ?_
 refine wpList_move_ rfl (.tmp 3) rfl ?_
 refine wpList_load_confA rfl (.tmp 1) rfl (by rfl) hX01 hcl ?_
 go_wp2_with (first | (go_at_call 100;refine (HSe.out _).mono ?_;rintro e w2 ⟨rfl,hb2,hX2,hF2⟩;rename_i hKK;have hown2:=own_belowN hown1 hb2;have hX12:=hX1.below hb2 hX1.lt;have hsz2:=hb2.size;dsimp only;refine hKK _ _ ?_;refine wpList_append_any _ rfl (.tmp 15) (.tmp 17) _ rfl w.heap.size 187 iC .nilFunc 1 8 Tryz.underlying184 hiC hC0 hC1 hC2 rfl (by decide) (.slice (some ⟨W0.heap.size+1,0,none⟩) 2 2) 2 _ rfl hown2 _ (some ⟨w1.heap.size+1,0,none⟩) 5 5 [.func (.func 168) #[] #[.pointer (some ⟨w1.heap.size,0,none⟩)],.func (.func 169) #[] #[.pointer (some ⟨w1.heap.size,0,none⟩)],.func (.func 171) #[] #[.pointer (some ⟨w1.heap.size,0,none⟩)],.func (.func 173) #[] #[.pointer (some ⟨w1.heap.size,0,none⟩)],.func (.func 174) #[] #[.pointer (some ⟨w1.heap.size,0,none⟩)]] rfl (reads_blkN hF2 rfl) (by simp [Value.oneCell']) (by unfold maxLen;omega) (by omega) (by omega) ?_;intro v8 w8 hown8 hgr8 hor8;obtain ⟨A8',c8',rfl⟩:=own_slN hown8;simp only [Nat.reduceAdd] at hown8 hgr8 hor8 ⊢) | fail)
 obtain ⟨_,hR8⟩:=Reads.of_own hown8
 obtain ⟨ad,hAd,hlt8,hat8⟩:=hR8 (by decide)
 subst hAd
 have hgr9:w2.grownBy w8 (some (W0.heap.size+1)):=hgr8
 have hf1:=hF1.lt
 have hX12:=hX1.below hb2 hlt1
 have hl12:=hX12.lt
 have hl2:=hX2.lt
 have HB8:=hide (show Below w.heap.size w w8 from ((HX.out.1.trans (hb1.mono hsz0)).trans (hb2.mono (by omega))).grown hgr9 (by omega) (fun b hb=>by
  have:=Option.some.inj hb
  omega))
 have HR8:=hide (show RowF w8 W0.heap.size w1.heap.size cv ad [.func (.func 160) #[] #[.pointer (some ⟨W0.heap.size,0,none⟩)],.func (.func 163) #[] #[.pointer (some ⟨W0.heap.size,0,none⟩)],.func (.func 168) #[] #[.pointer (some ⟨w1.heap.size,0,none⟩)],.func (.func 169) #[] #[.pointer (some ⟨w1.heap.size,0,none⟩)],.func (.func 171) #[] #[.pointer (some ⟨w1.heap.size,0,none⟩)],.func (.func 173) #[] #[.pointer (some ⟨w1.heap.size,0,none⟩)],.func (.func 174) #[] #[.pointer (some ⟨w1.heap.size,0,none⟩)]] w8 from ⟨Below.refl _ _,hX12.grown hgr9 (fun e=>by have:=Option.some.inj e;omega),hX2.grown hgr9 (fun e=>by have:=Option.some.inj e;omega),hlt8,fun k u hu=>hat8 k u hu⟩)
 generalize W0.heap.size=b1 at HR8
 generalize w1.heap.size=b2 at HR8
 clear hown8 hgr8 hor8 hR8 hlt8 hat8 hf1 hgr9 hl12 hl2 hX12 hX1 hF1 hX2 hF2 hb1 hb2 hX0 hX01 hown1 z0 z1 HBo HSe HX hlt0 hlt1 hsz0 hsz2
 go_loopw [21] (fun i wr=>(∃k:Nat,k≤7∧i=.int .i64 k∧Hid (fstE [e0,e1,e2,e3,e4,e5,e6]=fstE ([e0,e1,e2,e3,e4,e5,e6].drop k)))∧Hid (RowF w8 b1 b2 cv ad [.func (.func 160) #[] #[.pointer (some ⟨b1,0,none⟩)],.func (.func 163) #[] #[.pointer (some ⟨b1,0,none⟩)],.func (.func 168) #[] #[.pointer (some ⟨b2,0,none⟩)],.func (.func 169) #[] #[.pointer (some ⟨b2,0,none⟩)],.func (.func 171) #[] #[.pointer (some ⟨b2,0,none⟩)],.func (.func 173) #[] #[.pointer (some ⟨b2,0,none⟩)],.func (.func 174) #[] #[.pointer (some ⟨b2,0,none⟩)]] wr)) (fun i _=>7 - (intOf i).toNat)
 case atStart=>exact ⟨⟨0,Nat.zero_le _,rfl,hide rfl⟩,HR8⟩
 case round =>
  obtain ⟨⟨k,hk,rfl,H⟩,HB⟩:=hrel
  have HBW:=hide (HB8.out.trans (HB.out.bel.mono HB8.out.size))
  match k,hk with
  | 0,_ =>
   have hc:=HB.out.at_ 0 _ rfl
   have hc2:=hc
   rw [add_nil_] at hc2
   have HK:=hide (K0.out w8 wr b1 b2 ad HB.out HBW.out)
   rcases or_opt e0 with he | ⟨⟨ps,kk⟩,he⟩
   ·have H2:=hide (show fstE [e0,e1,e2,e3,e4,e5,e6]=fstE ([e0,e1,e2,e3,e4,e5,e6].drop 1) from H.out.trans (by show fstE (e0 :: [e1,e2,e3,e4,e5,e6])=_;rw [he];rfl))
    rw [he] at HK
    have HK2:=hide (errR_none HK.out)
    clear H HK he
    go_wp2_with (first | (go_at_call 160;refine HK2.out.mono ?_;rintro e w3 ⟨rfl,hb3⟩) | fail)
    have HB3:=hide (HB.out.below hb3)
    go_roundw
    case rel=>exact ⟨⟨1,by decide,by go_num,H2⟩,HB3⟩
    case measure=>simp [intOf]
   ·have E:=hide (show inC (fstE [e0,e1,e2,e3,e4,e5,e6])=some ([99,111,110,102] :: ps,kk) from by rw [H.out];show inC (fstE (e0 :: [e1,e2,e3,e4,e5,e6]))=_;rw [he];rfl)
    rw [he] at HK
    have HK2:=hide (errR_some HK.out)
    unfold errV at HK2
    clear H HK he
    go_wp2_with (first | (go_at_call 160;refine HK2.out.mono ?_;rintro e w3 ⟨b,rfl,hi,hb3⟩;have HT2:=hide (HT.out _ ⟨#[99,111,110,102]⟩ b _ _ hi);unfold errV at HT2) | (go_at_call 42;refine HT2.out.mono ?_;rintro e w5 ⟨b2,rfl,hi2,hb5⟩) | fail)
    go_ret
    have hb35:=hb3.trans (hb5.mono hb3.size)
    exact errR_s E.out (HBW.out.trans (hb35.mono HBW.out.size)) rfl hi2
  | 1,_ =>
   have hc:=HB.out.at_ 1 _ rfl
   have hc2:wr.cell? ⟨ad.block,ad.off+1,none⟩=some (.func (.func 163) #[] #[.pointer (some ⟨b1,0,none⟩)]):=by rw [←show ad.add 1=⟨ad.block,ad.off+1,none⟩ from by simp [Addr.add]];exact hc
   have HK:=hide (K1.out w8 wr b1 b2 ad HB.out HBW.out)
   rcases or_opt e1 with he | ⟨⟨ps,kk⟩,he⟩
   ·have H2:=hide (show fstE [e0,e1,e2,e3,e4,e5,e6]=fstE ([e0,e1,e2,e3,e4,e5,e6].drop 2) from H.out.trans (by show fstE (e1 :: [e2,e3,e4,e5,e6])=_;rw [he];rfl))
    rw [he] at HK
    have HK2:=hide (errR_none HK.out)
    clear H HK he
    go_wp2_with (first | (go_at_call 163;refine HK2.out.mono ?_;rintro e w3 ⟨rfl,hb3⟩) | fail)
    have HB3:=hide (HB.out.below hb3)
    go_roundw
    case rel=>exact ⟨⟨2,by decide,by go_num,H2⟩,HB3⟩
    case measure=>simp [intOf]
   ·have E:=hide (show inC (fstE [e0,e1,e2,e3,e4,e5,e6])=some ([99,111,110,102] :: ps,kk) from by rw [H.out];show inC (fstE (e1 :: [e2,e3,e4,e5,e6]))=_;rw [he];rfl)
    rw [he] at HK
    have HK2:=hide (errR_some HK.out)
    unfold errV at HK2
    clear H HK he
    go_wp2_with (first | (go_at_call 163;refine HK2.out.mono ?_;rintro e w3 ⟨b,rfl,hi,hb3⟩;have HT2:=hide (HT.out _ ⟨#[99,111,110,102]⟩ b _ _ hi);unfold errV at HT2) | (go_at_call 42;refine HT2.out.mono ?_;rintro e w5 ⟨b2,rfl,hi2,hb5⟩) | fail)
    go_ret
    have hb35:=hb3.trans (hb5.mono hb3.size)
    exact errR_s E.out (HBW.out.trans (hb35.mono HBW.out.size)) rfl hi2
  | 2,_ =>
   have hc:=HB.out.at_ 2 _ rfl
   have hc2:wr.cell? ⟨ad.block,ad.off+2,none⟩=some (.func (.func 168) #[] #[.pointer (some ⟨b2,0,none⟩)]):=by rw [←show ad.add 2=⟨ad.block,ad.off+2,none⟩ from by simp [Addr.add]];exact hc
   have HK:=hide (K2.out w8 wr b1 b2 ad HB.out HBW.out)
   rcases or_opt e2 with he | ⟨⟨ps,kk⟩,he⟩
   ·have H2:=hide (show fstE [e0,e1,e2,e3,e4,e5,e6]=fstE ([e0,e1,e2,e3,e4,e5,e6].drop 3) from H.out.trans (by show fstE (e2 :: [e3,e4,e5,e6])=_;rw [he];rfl))
    rw [he] at HK
    have HK2:=hide (errR_none HK.out)
    clear H HK he
    go_wp2_with (first | (go_at_call 168;refine HK2.out.mono ?_;rintro e w3 ⟨rfl,hb3⟩) | fail)
    have HB3:=hide (HB.out.below hb3)
    go_roundw
    case rel=>exact ⟨⟨3,by decide,by go_num,H2⟩,HB3⟩
    case measure=>simp [intOf]
   ·have E:=hide (show inC (fstE [e0,e1,e2,e3,e4,e5,e6])=some ([99,111,110,102] :: ps,kk) from by rw [H.out];show inC (fstE (e2 :: [e3,e4,e5,e6]))=_;rw [he];rfl)
    rw [he] at HK
    have HK2:=hide (errR_some HK.out)
    unfold errV at HK2
    clear H HK he
    go_wp2_with (first | (go_at_call 168;refine HK2.out.mono ?_;rintro e w3 ⟨b,rfl,hi,hb3⟩;have HT2:=hide (HT.out _ ⟨#[99,111,110,102]⟩ b _ _ hi);unfold errV at HT2) | (go_at_call 42;refine HT2.out.mono ?_;rintro e w5 ⟨b2,rfl,hi2,hb5⟩) | fail)
    go_ret
    have hb35:=hb3.trans (hb5.mono hb3.size)
    exact errR_s E.out (HBW.out.trans (hb35.mono HBW.out.size)) rfl hi2
  | 3,_ =>
   have hc:=HB.out.at_ 3 _ rfl
   have hc2:wr.cell? ⟨ad.block,ad.off+3,none⟩=some (.func (.func 169) #[] #[.pointer (some ⟨b2,0,none⟩)]):=by rw [←show ad.add 3=⟨ad.block,ad.off+3,none⟩ from by simp [Addr.add]];exact hc
   have HK:=hide (K3.out w8 wr b1 b2 ad HB.out HBW.out)
   rcases or_opt e3 with he | ⟨⟨ps,kk⟩,he⟩
   ·have H2:=hide (show fstE [e0,e1,e2,e3,e4,e5,e6]=fstE ([e0,e1,e2,e3,e4,e5,e6].drop 4) from H.out.trans (by show fstE (e3 :: [e4,e5,e6])=_;rw [he];rfl))
    rw [he] at HK
    have HK2:=hide (errR_none HK.out)
    clear H HK he
    go_wp2_with (first | (go_at_call 169;refine HK2.out.mono ?_;rintro e w3 ⟨rfl,hb3⟩) | fail)
    have HB3:=hide (HB.out.below hb3)
    go_roundw
    case rel=>exact ⟨⟨4,by decide,by go_num,H2⟩,HB3⟩
    case measure=>simp [intOf]
   ·have E:=hide (show inC (fstE [e0,e1,e2,e3,e4,e5,e6])=some ([99,111,110,102] :: ps,kk) from by rw [H.out];show inC (fstE (e3 :: [e4,e5,e6]))=_;rw [he];rfl)
    rw [he] at HK
    have HK2:=hide (errR_some HK.out)
    unfold errV at HK2
    clear H HK he
    go_wp2_with (first | (go_at_call 169;refine HK2.out.mono ?_;rintro e w3 ⟨b,rfl,hi,hb3⟩;have HT2:=hide (HT.out _ ⟨#[99,111,110,102]⟩ b _ _ hi);unfold errV at HT2) | (go_at_call 42;refine HT2.out.mono ?_;rintro e w5 ⟨b2,rfl,hi2,hb5⟩) | fail)
    go_ret
    have hb35:=hb3.trans (hb5.mono hb3.size)
    exact errR_s E.out (HBW.out.trans (hb35.mono HBW.out.size)) rfl hi2
  | 4,_ =>
   have hc:=HB.out.at_ 4 _ rfl
   have hc2:wr.cell? ⟨ad.block,ad.off+4,none⟩=some (.func (.func 171) #[] #[.pointer (some ⟨b2,0,none⟩)]):=by rw [←show ad.add 4=⟨ad.block,ad.off+4,none⟩ from by simp [Addr.add]];exact hc
   have HK:=hide (K4.out w8 wr b1 b2 ad HB.out HBW.out)
   rcases or_opt e4 with he | ⟨⟨ps,kk⟩,he⟩
   ·have H2:=hide (show fstE [e0,e1,e2,e3,e4,e5,e6]=fstE ([e0,e1,e2,e3,e4,e5,e6].drop 5) from H.out.trans (by show fstE (e4 :: [e5,e6])=_;rw [he];rfl))
    rw [he] at HK
    have HK2:=hide (errR_none HK.out)
    clear H HK he
    go_wp2_with (first | (go_at_call 171;refine HK2.out.mono ?_;rintro e w3 ⟨rfl,hb3⟩) | fail)
    have HB3:=hide (HB.out.below hb3)
    go_roundw
    case rel=>exact ⟨⟨5,by decide,by go_num,H2⟩,HB3⟩
    case measure=>simp [intOf]
   ·have E:=hide (show inC (fstE [e0,e1,e2,e3,e4,e5,e6])=some ([99,111,110,102] :: ps,kk) from by rw [H.out];show inC (fstE (e4 :: [e5,e6]))=_;rw [he];rfl)
    rw [he] at HK
    have HK2:=hide (errR_some HK.out)
    unfold errV at HK2
    clear H HK he
    go_wp2_with (first | (go_at_call 171;refine HK2.out.mono ?_;rintro e w3 ⟨b,rfl,hi,hb3⟩;have HT2:=hide (HT.out _ ⟨#[99,111,110,102]⟩ b _ _ hi);unfold errV at HT2) | (go_at_call 42;refine HT2.out.mono ?_;rintro e w5 ⟨b2,rfl,hi2,hb5⟩) | fail)
    go_ret
    have hb35:=hb3.trans (hb5.mono hb3.size)
    exact errR_s E.out (HBW.out.trans (hb35.mono HBW.out.size)) rfl hi2
  | 5,_ =>
   have hc:=HB.out.at_ 5 _ rfl
   have hc2:wr.cell? ⟨ad.block,ad.off+5,none⟩=some (.func (.func 173) #[] #[.pointer (some ⟨b2,0,none⟩)]):=by rw [←show ad.add 5=⟨ad.block,ad.off+5,none⟩ from by simp [Addr.add]];exact hc
   have HK:=hide (K5.out w8 wr b1 b2 ad HB.out HBW.out)
   rcases or_opt e5 with he | ⟨⟨ps,kk⟩,he⟩
   ·have H2:=hide (show fstE [e0,e1,e2,e3,e4,e5,e6]=fstE ([e0,e1,e2,e3,e4,e5,e6].drop 6) from H.out.trans (by show fstE (e5 :: [e6])=_;rw [he];rfl))
    rw [he] at HK
    have HK2:=hide (errR_none HK.out)
    clear H HK he
    go_wp2_with (first | (go_at_call 173;refine HK2.out.mono ?_;rintro e w3 ⟨rfl,hb3⟩) | fail)
    have HB3:=hide (HB.out.below hb3)
    go_roundw
    case rel=>exact ⟨⟨6,by decide,by go_num,H2⟩,HB3⟩
    case measure=>simp [intOf]
   ·have E:=hide (show inC (fstE [e0,e1,e2,e3,e4,e5,e6])=some ([99,111,110,102] :: ps,kk) from by rw [H.out];show inC (fstE (e5 :: [e6]))=_;rw [he];rfl)
    rw [he] at HK
    have HK2:=hide (errR_some HK.out)
    unfold errV at HK2
    clear H HK he
    go_wp2_with (first | (go_at_call 173;refine HK2.out.mono ?_;rintro e w3 ⟨b,rfl,hi,hb3⟩;have HT2:=hide (HT.out _ ⟨#[99,111,110,102]⟩ b _ _ hi);unfold errV at HT2) | (go_at_call 42;refine HT2.out.mono ?_;rintro e w5 ⟨b2,rfl,hi2,hb5⟩) | fail)
    go_ret
    have hb35:=hb3.trans (hb5.mono hb3.size)
    exact errR_s E.out (HBW.out.trans (hb35.mono HBW.out.size)) rfl hi2
  | 6,_ =>
   have hc:=HB.out.at_ 6 _ rfl
   have hc2:wr.cell? ⟨ad.block,ad.off+6,none⟩=some (.func (.func 174) #[] #[.pointer (some ⟨b2,0,none⟩)]):=by rw [←show ad.add 6=⟨ad.block,ad.off+6,none⟩ from by simp [Addr.add]];exact hc
   have HK:=hide (K6.out w8 wr b1 b2 ad HB.out HBW.out)
   rcases or_opt e6 with he | ⟨⟨ps,kk⟩,he⟩
   ·have H2:=hide (show fstE [e0,e1,e2,e3,e4,e5,e6]=fstE ([e0,e1,e2,e3,e4,e5,e6].drop 7) from H.out.trans (by show fstE (e6 :: [])=_;rw [he];rfl))
    rw [he] at HK
    have HK2:=hide (errR_none HK.out)
    clear H HK he
    go_wp2_with (first | (go_at_call 174;refine HK2.out.mono ?_;rintro e w3 ⟨rfl,hb3⟩) | fail)
    have HB3:=hide (HB.out.below hb3)
    go_roundw
    case rel=>exact ⟨⟨7,by decide,by go_num,H2⟩,HB3⟩
    case measure=>simp [intOf]
   ·have E:=hide (show inC (fstE [e0,e1,e2,e3,e4,e5,e6])=some ([99,111,110,102] :: ps,kk) from by rw [H.out];show inC (fstE (e6 :: []))=_;rw [he];rfl)
    rw [he] at HK
    have HK2:=hide (errR_some HK.out)
    unfold errV at HK2
    clear H HK he
    go_wp2_with (first | (go_at_call 174;refine HK2.out.mono ?_;rintro e w3 ⟨b,rfl,hi,hb3⟩;have HT2:=hide (HT.out _ ⟨#[99,111,110,102]⟩ b _ _ hi);unfold errV at HT2) | (go_at_call 42;refine HT2.out.mono ?_;rintro e w5 ⟨b2,rfl,hi2,hb5⟩) | fail)
    go_ret
    have hb35:=hb3.trans (hb5.mono hb3.size)
    exact errR_s E.out (HBW.out.trans (hb35.mono HBW.out.size)) rfl hi2
  | 7,_ =>
   have E:=hide (show inC (fstE [e0,e1,e2,e3,e4,e5,e6])=none from by rw [H.out];rfl)
   clear H
   go_wp2_with fail
   go_ret
   exact errR_n E.out HBW.out rfl
end
end Go.Proofs.YtkfnepnghnicoaaGreatDoor
