/-
  The contract of conf.Check, with its parts. Conditions: lists of at most 1,000,000 texts; the listed variables are there.
-/
import Derived.Test.YtkfnepnghnicoaaGreatDoorKCfKG
import Derived.Deep.MidRow
set_option linter.unusedVariables false
set_option linter.unusedSimpArgs false
set_option maxHeartbeats 40000000
set_option maxRecDepth 100000
namespace Go.Proofs.YtkfnepnghnicoaaGreatDoor
open Go.RowKit Go.ChangeShapes Go.WideShapes Go.Sort
abbrev ErrO:=Option (List (List UInt8) × Int)
def unl (b:Bool) (s:List UInt8) (k:Int):ErrO:=if b=true then none else some ([s],k)
def fstE:List ErrO→ErrO
 | []=>none
 | none :: r=>fstE r
 | some x :: _=>some x
def inC (o:ErrO):ErrO:=o.map fun x=>([99,111,110,102] :: x.1,x.2)
structure CfM (w:World) (sw cm us:List UInt8) (vs:List Value) (ls:List (List (List UInt8))) (A8:Option Addr) (c8:Nat) (al:List (List UInt8)) (A9:Option Addr) (gr:List (List UInt8 × Int)) (A10:Option Addr) (ky:List Int):Prop where
 hsw:sw.length≤1000000
 hcm:cm.length≤1000000
 hus:us.length≤1000000
 hl8:All8 w vs ls
 hal:Txs w (.slice A8 al.length c8) al
 alc:al.length≤c8
 all:al.length≤1000000
 aly:∀y∈al,y.length≤1000000
 hgr:GrC w A9 gr
 grl:gr.length≤1000000
 gry:∀g∈gr,g.1.length≤1000000
 hky:InC w A10 ky
 kyl:ky.length≤1000000
theorem CfM.below {w w':World} {sw cm us:List UInt8} {vs:List Value} {ls:List (List (List UInt8))} {A8:Option Addr} {c8:Nat} {al:List (List UInt8)} {A9:Option Addr} {gr:List (List UInt8 × Int)} {A10:Option Addr} {ky:List Int}
  (h:CfM w sw cm us vs ls A8 c8 al A9 gr A10 ky) (hb:Below w.heap.size w w'):CfM w' sw cm us vs ls A8 c8 al A9 gr A10 ky :=
 ⟨h.hsw,h.hcm,h.hus,h.hl8.below hb,h.hal.below hb,h.alc,h.all,h.aly,h.hgr.below hb,h.grl,h.gry,h.hky.below hb,h.kyl⟩
theorem own_blkC {w:World} {b g n:Nat} {t:TypeId} {vs:List Value} (h:Blk w g t vs.toArray) (hb:b≤g) (hn:vs.length=n) (hm:n≤maxLen):w.ownsRow b t 1 (.slice (some ⟨g,0,none⟩) n n) n vs:=by
 subst hn
 exact ⟨by simp,.inr ⟨g,vs.length,vs.toArray,rfl,hb,h,Nat.le_refl _,hm,by simp,by simp⟩⟩
section
variable {w : World}
theorem unless_any (b:Bool) (s:ByteArray) (k:Int) (hk:(k == 0)=false) (w:World):Calls Tryz.prog 161 #[.bool b,.string s,.int .i64 k] w (ErrR (unl b s.data.toList k) w):=by
 have HO:=hide (fun (W:World)=>fof_any s k hk W)
 clear hk
 cases b with
 | true =>
  go_enter Tryz.func161,Tryz.ntmps161
  go_wp2_with fail
  go_ret
  exact errR_n rfl (Below.refl _ _) rfl
 | false =>
  go_enter Tryz.func161,Tryz.ntmps161
  go_wp2_with (first | (go_at_call 31;refine (HO.out _).mono ?_;rintro e w2 ⟨b,rfl,hi,hb⟩) | fail)
  go_ret
  exact errR_s rfl hb rfl hi
theorem version_any {sv ex ge:Bool} {sw cm us:List UInt8} {A0 A1 A2 A3 A4 A5 A6 A7 A8 A9 A10:Option Addr} {n0 n1 n2 n3 n4 n5 n6 n7 c0 c1 c2 c3 c4 c5 c6 c7 c8 c9 c10:Nat} {al:List (List UInt8)} {own lim peer q0 q1 q2:Int} {gr:List (List UInt8 × Int)} {ky:List Int} (h1:sw.length≤1000000) (h2:cm.length≤1000000):Calls Tryz.prog 162 #[.agg #[.bool sv,.string (bs sw),.string (bs cm),.slice A0 n0 c0,.slice A1 n1 c1,.slice A2 n2 c2,.slice A3 n3 c3,.slice A4 n4 c4,.slice A5 n5 c5,.slice A6 n6 c6,.slice A7 n7 c7,.slice A8 al.length c8,.int .i64 own,.slice A9 gr.length c9,.int .i64 lim,.int .i64 peer,.string (bs us),.slice A10 ky.length c10,.bool ex,.bool ge,.int .u32 q0,.int .u32 q1,.int .u32 q2]] w (fun e w'=>e=.returned (.string (bs (verL sw cm)))∧Below w.heap.size w w'):=by
 obtain ⟨W0,hW0⟩:∃W0,W0=w.alloc (.cells #[.bool sv,.string (bs sw),.string (bs cm),.slice A0 n0 c0,.slice A1 n1 c1,.slice A2 n2 c2,.slice A3 n3 c3,.slice A4 n4 c4,.slice A5 n5 c5,.slice A6 n6 c6,.slice A7 n7 c7,.slice A8 al.length c8,.int .i64 own,.slice A9 gr.length c9,.int .i64 lim,.int .i64 peer,.string (bs us),.slice A10 ky.length c10,.bool ex,.bool ge,.int .u32 q0,.int .u32 q1,.int .u32 q2] 30):=⟨_,rfl⟩
 have hb0:Below w.heap.size w W0:=by rw [hW0];exact bel_by
 have hX0:Blk W0 w.heap.size 30 #[.bool sv,.string (bs sw),.string (bs cm),.slice A0 n0 c0,.slice A1 n1 c1,.slice A2 n2 c2,.slice A3 n3 c3,.slice A4 n4 c4,.slice A5 n5 c5,.slice A6 n6 c6,.slice A7 n7 c7,.slice A8 al.length c8,.int .i64 own,.slice A9 gr.length c9,.int .i64 lim,.int .i64 peer,.string (bs us),.slice A10 ky.length c10,.bool ex,.bool ge,.int .u32 q0,.int .u32 q1,.int .u32 q2]:=by rw [hW0];exact Blk.new w _ _
 have HM:=hide (lmake_any (sw:=bs sw) (cm:=bs cm) h1 h2 W0)
 rw [bs_data,bs_data] at HM
 have z0:=hX0.cell 0
 have z1:=hX0.cell 1
 have z2:=hX0.cell 2
 have z3:=hX0.cell 3
 have z4:=hX0.cell 4
 have z5:=hX0.cell 5
 have z6:=hX0.cell 6
 have z7:=hX0.cell 7
 have z8:=hX0.cell 8
 have z9:=hX0.cell 9
 have z10:=hX0.cell 10
 have z11:=hX0.cell 11
 have z12:=hX0.cell 12
 have z13:=hX0.cell 13
 have z14:=hX0.cell 14
 have z15:=hX0.cell 15
 have z16:=hX0.cell 16
 have z17:=hX0.cell 17
 have z18:=hX0.cell 18
 have z19:=hX0.cell 19
 have z20:=hX0.cell 20
 have z21:=hX0.cell 21
 have z22:=hX0.cell 22
 simp only [List.getElem?_toArray,List.getElem?_cons_zero,List.getElem?_cons_succ] at z0 z1 z2 z3 z4 z5 z6 z7 z8 z9 z10 z11 z12 z13 z14 z15 z16 z17 z18 z19 z20 z21 z22
 have HB:=hide hb0
 clear hb0 hX0 h1 h2
 go_enter Tryz.func162,Tryz.ntmps162
 go_upto_region 1 with fail
 rw [←hW0]
 clear hW0
 go_wp2_with (first | (go_at_call 231;refine HM.out.mono ?_;rintro e w1 ⟨rfl,rfl⟩) | fail)
 go_ret
 exact ⟨rfl,HB.out⟩
theorem rversion_any {sv ex ge:Bool} {sw cm us:List UInt8} {A0 A1 A2 A3 A4 A5 A6 A7 A8 A9 A10:Option Addr} {n0 n1 n2 n3 n4 n5 n6 n7 c0 c1 c2 c3 c4 c5 c6 c7 c8 c9 c10:Nat} {al:List (List UInt8)} {own lim peer q0 q1 q2:Int} {gr:List (List UInt8 × Int)} {ky:List Int} (h1:sw.length≤1000000) (h2:cm.length≤1000000):Calls Tryz.prog 104 #[.agg #[.bool sv,.string (bs sw),.string (bs cm),.slice A0 n0 c0,.slice A1 n1 c1,.slice A2 n2 c2,.slice A3 n3 c3,.slice A4 n4 c4,.slice A5 n5 c5,.slice A6 n6 c6,.slice A7 n7 c7,.slice A8 al.length c8,.int .i64 own,.slice A9 gr.length c9,.int .i64 lim,.int .i64 peer,.string (bs us),.slice A10 ky.length c10,.bool ex,.bool ge,.int .u32 q0,.int .u32 q1,.int .u32 q2]] w (fun e w'=>e=.returned (.string (bs (verL sw cm)))∧Below w.heap.size w w'):=by
 obtain ⟨W0,hW0⟩:∃W0,W0=w.alloc (.cells #[.bool sv,.string (bs sw),.string (bs cm),.slice A0 n0 c0,.slice A1 n1 c1,.slice A2 n2 c2,.slice A3 n3 c3,.slice A4 n4 c4,.slice A5 n5 c5,.slice A6 n6 c6,.slice A7 n7 c7,.slice A8 al.length c8,.int .i64 own,.slice A9 gr.length c9,.int .i64 lim,.int .i64 peer,.string (bs us),.slice A10 ky.length c10,.bool ex,.bool ge,.int .u32 q0,.int .u32 q1,.int .u32 q2] 30):=⟨_,rfl⟩
 have hb0:Below w.heap.size w W0:=by rw [hW0];exact bel_by
 have hX0:Blk W0 w.heap.size 30 #[.bool sv,.string (bs sw),.string (bs cm),.slice A0 n0 c0,.slice A1 n1 c1,.slice A2 n2 c2,.slice A3 n3 c3,.slice A4 n4 c4,.slice A5 n5 c5,.slice A6 n6 c6,.slice A7 n7 c7,.slice A8 al.length c8,.int .i64 own,.slice A9 gr.length c9,.int .i64 lim,.int .i64 peer,.string (bs us),.slice A10 ky.length c10,.bool ex,.bool ge,.int .u32 q0,.int .u32 q1,.int .u32 q2]:=by rw [hW0];exact Blk.new w _ _
 have HM:=hide (rmake_any (sw:=bs sw) (cm:=bs cm) h1 h2 W0)
 rw [bs_data,bs_data] at HM
 have z0:=hX0.cell 0
 have z1:=hX0.cell 1
 have z2:=hX0.cell 2
 have z3:=hX0.cell 3
 have z4:=hX0.cell 4
 have z5:=hX0.cell 5
 have z6:=hX0.cell 6
 have z7:=hX0.cell 7
 have z8:=hX0.cell 8
 have z9:=hX0.cell 9
 have z10:=hX0.cell 10
 have z11:=hX0.cell 11
 have z12:=hX0.cell 12
 have z13:=hX0.cell 13
 have z14:=hX0.cell 14
 have z15:=hX0.cell 15
 have z16:=hX0.cell 16
 have z17:=hX0.cell 17
 have z18:=hX0.cell 18
 have z19:=hX0.cell 19
 have z20:=hX0.cell 20
 have z21:=hX0.cell 21
 have z22:=hX0.cell 22
 simp only [List.getElem?_toArray,List.getElem?_cons_zero,List.getElem?_cons_succ] at z0 z1 z2 z3 z4 z5 z6 z7 z8 z9 z10 z11 z12 z13 z14 z15 z16 z17 z18 z19 z20 z21 z22
 have HB:=hide hb0
 clear hb0 hX0 h1 h2
 go_enter Tryz.func104,Tryz.ntmps104
 go_upto_region 1 with fail
 rw [←hW0]
 clear hW0
 go_wp2_with (first | (go_at_call 178;refine HM.out.mono ?_;rintro e w1 ⟨rfl,rfl⟩) | fail)
 go_ret
 exact ⟨rfl,HB.out⟩
theorem str_ne {l:List UInt8}:(!(bs l).toList.isEmpty)=(l != []):=by rw [bs_toList];cases l <;> rfl
theorem errR_val {o:ErrO} {e:Ending} {w':World} (h:ErrR o w e w'):∃v,e=.returned v:=by
 obtain ⟨_,h⟩:=h
 cases o with
 | none=>exact ⟨_,h⟩
 | some x=>obtain ⟨b,h,_⟩:=h;exact ⟨_,h⟩
theorem rangeC {b:Nat} {ty:TypeId} {cs:List Value} (hX:Blk w b ty cs.toArray):w.rangeAt b 0 cs:=fun j v hv=>by rw [Nat.zero_add,hX.cell j];simpa using hv
theorem infoConf:(Tryz.prog.info? 30).map (·.size)=some 23:=by kernel_rfl
theorem wpList_load_conf {ops:Array Oper} {rest:List Oper} {op:Oper} {a:Act} {Q:Exit→Act→World→Prop} (hgd:op.guard=none) (x:Operand) (ho:op.op=.load 30 x) {b:Nat} (hx:a.eval x=.pointer (some ⟨b,0,none⟩)) {cs:List Value} (hX:Blk w b 30 cs.toArray) (hl:cs.length=23)
  (h:wpList Tryz.prog ops Q rest (a.put op.dst (.agg cs.toArray)) w):wpList Tryz.prog ops Q (op :: rest) a w :=
 wpList_load_mid hgd 30 x ho b 0 hx cs _ (rangeC hX) Tryz.underlying30 rfl (by rw [hl];exact infoConf) h
theorem wpList_move_ {ops:Array Oper} {rest:List Oper} {op:Oper} {a:Act} {Q:Exit→Act→World→Prop} (hgd:op.guard=none) (x:Operand) (ho:op.op=.move x)
  (h:wpList Tryz.prog ops Q rest (a.put op.dst (a.eval x)) w):wpList Tryz.prog ops Q (op :: rest) a w :=
 wpList_plain hgd fun _ hK=>by
  unfold Oper.wp execOp
  simp only [ho]
  exact hK _ _ h
theorem errR_ret {w1:World} {o:ErrO} {e:Ending} {w':World} (h:ErrR o w1 e w') (hb:Below w.heap.size w w1):ErrR o w e w':=⟨hb.trans (h.1.mono hb.size),h.2⟩
theorem cb1_any {sv ex ge:Bool} {sw cm us:List UInt8} {A0 A1 A2 A3 A4 A5 A6 A7 A8 A9 A10:Option Addr} {n0 n1 n2 n3 n4 n5 n6 n7 c0 c1 c2 c3 c4 c5 c6 c7 c8 c9 c10:Nat} {al:List (List UInt8)} {own lim peer q0 q1 q2:Int} {gr:List (List UInt8 × Int)} {ky:List Int} {b:Nat} (hX:Blk w b 30 #[.bool sv,.string (bs sw),.string (bs cm),.slice A0 n0 c0,.slice A1 n1 c1,.slice A2 n2 c2,.slice A3 n3 c3,.slice A4 n4 c4,.slice A5 n5 c5,.slice A6 n6 c6,.slice A7 n7 c7,.slice A8 al.length c8,.int .i64 own,.slice A9 gr.length c9,.int .i64 lim,.int .i64 peer,.string (bs us),.slice A10 ky.length c10,.bool ex,.bool ge,.int .u32 q0,.int .u32 q1,.int .u32 q2]) (h1:sw.length≤1000000) (h2:cm.length≤1000000):Calls Tryz.prog 160 #[.pointer (some ⟨b,0,none⟩)] w (ErrR (unl (verL sw cm != []) [118,101,114,115,105,111,110] 1) w):=by
 have HV:=hide (version_any (w:=w) (sv:=sv) (ex:=ex) (ge:=ge) (us:=us) (A0:=A0) (A1:=A1) (A2:=A2) (A3:=A3) (A4:=A4) (A5:=A5) (A6:=A6) (A7:=A7) (A8:=A8) (A9:=A9) (A10:=A10) (n0:=n0) (n1:=n1) (n2:=n2) (n3:=n3) (n4:=n4) (n5:=n5) (n6:=n6) (n7:=n7) (c0:=c0) (c1:=c1) (c2:=c2) (c3:=c3) (c4:=c4) (c5:=c5) (c6:=c6) (c7:=c7) (c8:=c8) (c9:=c9) (c10:=c10) (al:=al) (own:=own) (lim:=lim) (peer:=peer) (q0:=q0) (q1:=q1) (q2:=q2) (gr:=gr) (ky:=ky) h1 h2)
 have HU:=hide (fun (W:World)=>show Calls Tryz.prog 161 #[.bool (!(bs (verL sw cm)).toList.isEmpty),.string ⟨#[118,101,114,115,105,111,110]⟩,.int .i64 1] W (ErrR (unl (verL sw cm != []) [118,101,114,115,105,111,110] 1) W) from by rw [str_ne];exact unless_any (verL sw cm != []) ⟨#[118,101,114,115,105,111,110]⟩ 1 (by decide) W)
 generalize verL sw cm=vv at HV HU ⊢
 have hlt:=hX.lt
 go_enter Tryz.func160,Tryz.ntmps160
 go_upto_region 1 with fail
 refine wp_region_lit ?_
 refine wpList_load_conf rfl (.tmp 0) rfl (by rfl) hX rfl ?_
 generalize Value.agg #[.bool sv,.string (bs sw),.string (bs cm),.slice A0 n0 c0,.slice A1 n1 c1,.slice A2 n2 c2,.slice A3 n3 c3,.slice A4 n4 c4,.slice A5 n5 c5,.slice A6 n6 c6,.slice A7 n7 c7,.slice A8 al.length c8,.int .i64 own,.slice A9 gr.length c9,.int .i64 lim,.int .i64 peer,.string (bs us),.slice A10 ky.length c10,.bool ex,.bool ge,.int .u32 q0,.int .u32 q1,.int .u32 q2]=CX at HV ⊢
 clear hX
 go_wp2_with (first | (go_at_call 162;refine HV.out.mono ?_;rintro e w1 ⟨rfl,hb1⟩) | fail)
 refine (HU.out _).mono ?_
 rintro e w2 hE2
 obtain ⟨v,rfl⟩:=errR_val hE2
 go_wp2_with fail
 go_ret
 exact errR_ret hE2 hb1
theorem cb2_any {sv ex ge:Bool} {sw cm us:List UInt8} {A0 A1 A2 A3 A4 A5 A6 A7 A8 A9 A10:Option Addr} {n0 n1 n2 n3 n4 n5 n6 n7 c0 c1 c2 c3 c4 c5 c6 c7 c8 c9 c10:Nat} {al:List (List UInt8)} {own lim peer q0 q1 q2:Int} {gr:List (List UInt8 × Int)} {ky:List Int} {ls:List (List (List UInt8))} {b:Nat} (hX:Blk w b 30 #[.bool sv,.string (bs sw),.string (bs cm),.slice A0 n0 c0,.slice A1 n1 c1,.slice A2 n2 c2,.slice A3 n3 c3,.slice A4 n4 c4,.slice A5 n5 c5,.slice A6 n6 c6,.slice A7 n7 c7,.slice A8 al.length c8,.int .i64 own,.slice A9 gr.length c9,.int .i64 lim,.int .i64 peer,.string (bs us),.slice A10 ky.length c10,.bool ex,.bool ge,.int .u32 q0,.int .u32 q1,.int .u32 q2]) (hM:MethV w) (hW:WordV w) (h8:All8 w [.slice A0 n0 c0,.slice A1 n1 c1,.slice A2 n2 c2,.slice A3 n3 c3,.slice A4 n4 c4,.slice A5 n5 c5,.slice A6 n6 c6,.slice A7 n7 c7] ls):Calls Tryz.prog 163 #[.pointer (some ⟨b,0,none⟩)] w (ErrR (prR (prW ls)) w):=by
 have HP:=hide (pcheck_any hM hW h8)
 clear hM hW h8
 have z3:=hX.cell 3
 have z4:=hX.cell 4
 have z5:=hX.cell 5
 have z6:=hX.cell 6
 have z7:=hX.cell 7
 have z8:=hX.cell 8
 have z9:=hX.cell 9
 have z10:=hX.cell 10
 simp only [List.getElem?_toArray,List.getElem?_cons_zero,List.getElem?_cons_succ] at z3 z4 z5 z6 z7 z8 z9 z10
 have hlt:=hX.lt
 clear hX
 go_enter Tryz.func163,Tryz.ntmps163
 go_wp2_with (first | fail | fail)
 refine (HP.out).mono ?_
 rintro e w2 hE2
 obtain ⟨v,rfl⟩:=errR_val hE2
 go_wp2_with fail
 go_ret
 exact hE2
theorem cs1_any {sv ex ge:Bool} {sw cm us:List UInt8} {A0 A1 A2 A3 A4 A5 A6 A7 A8 A9 A10:Option Addr} {n0 n1 n2 n3 n4 n5 n6 n7 c0 c1 c2 c3 c4 c5 c6 c7 c8 c9 c10:Nat} {al:List (List UInt8)} {own lim peer q0 q1 q2:Int} {gr:List (List UInt8 × Int)} {ky:List Int} {b:Nat} (hX:Blk w b 30 #[.bool sv,.string (bs sw),.string (bs cm),.slice A0 n0 c0,.slice A1 n1 c1,.slice A2 n2 c2,.slice A3 n3 c3,.slice A4 n4 c4,.slice A5 n5 c5,.slice A6 n6 c6,.slice A7 n7 c7,.slice A8 al.length c8,.int .i64 own,.slice A9 gr.length c9,.int .i64 lim,.int .i64 peer,.string (bs us),.slice A10 ky.length c10,.bool ex,.bool ge,.int .u32 q0,.int .u32 q1,.int .u32 q2]):Calls Tryz.prog 165 #[.pointer (some ⟨b,0,none⟩)] w (ErrR (unl (princL own) [111,119,110] 5) w):=by
 have HP:=hide (princ_any own w)
 have HU:=hide (fun (W:World)=>unless_any (princL own) ⟨#[111,119,110]⟩ 5 (by decide) W)
 have z12:=hX.cell 12
 simp only [List.getElem?_toArray,List.getElem?_cons_zero,List.getElem?_cons_succ] at z12
 have hlt:=hX.lt
 clear hX
 go_enter Tryz.func165,Tryz.ntmps165
 go_wp2_with (first | (go_at_call 166;refine HP.out.mono ?_;rintro e w1 ⟨rfl,rfl⟩) | fail)
 refine (HU.out _).mono ?_
 rintro e w2 hE2
 obtain ⟨v,rfl⟩:=errR_val hE2
 go_wp2_with fail
 go_ret
 exact hE2
theorem cs2_any {sv ex ge:Bool} {sw cm us:List UInt8} {A0 A1 A2 A3 A4 A5 A6 A7 A8 A9 A10:Option Addr} {n0 n1 n2 n3 n4 n5 n6 n7 c0 c1 c2 c3 c4 c5 c6 c7 c8 c9 c10:Nat} {al:List (List UInt8)} {own lim peer q0 q1 q2:Int} {gr:List (List UInt8 × Int)} {ky:List Int} {ls:List (List (List UInt8))} {b:Nat} (hX:Blk w b 30 #[.bool sv,.string (bs sw),.string (bs cm),.slice A0 n0 c0,.slice A1 n1 c1,.slice A2 n2 c2,.slice A3 n3 c3,.slice A4 n4 c4,.slice A5 n5 c5,.slice A6 n6 c6,.slice A7 n7 c7,.slice A8 al.length c8,.int .i64 own,.slice A9 gr.length c9,.int .i64 lim,.int .i64 peer,.string (bs us),.slice A10 ky.length c10,.bool ex,.bool ge,.int .u32 q0,.int .u32 q1,.int .u32 q2]) (hC:CfM w sw cm us [.slice A0 n0 c0,.slice A1 n1 c1,.slice A2 n2 c2,.slice A3 n3 c3,.slice A4 n4 c4,.slice A5 n5 c5,.slice A6 n6 c6,.slice A7 n7 c7] ls A8 c8 al A9 gr A10 ky):Calls Tryz.prog 167 #[.pointer (some ⟨b,0,none⟩)] w (ErrR (denyR (denyE gr al lim)) w):=by
 have HP:=hide (deny_any (c:=c9) (lim:=lim) hC.hgr hC.grl hC.gry hC.hal hC.alc hC.all hC.aly)
 clear hC
 have z11:=hX.cell 11
 have z13:=hX.cell 13
 have z14:=hX.cell 14
 simp only [List.getElem?_toArray,List.getElem?_cons_zero,List.getElem?_cons_succ] at z11 z13 z14
 have hlt:=hX.lt
 clear hX
 go_enter Tryz.func167,Tryz.ntmps167
 go_wp2_with (first | fail | fail)
 refine (HP.out).mono ?_
 rintro e w2 hE2
 obtain ⟨v,rfl⟩:=errR_val hE2
 go_wp2_with fail
 go_ret
 exact hE2
theorem cc1_any {sv ex ge:Bool} {sw cm us:List UInt8} {A0 A1 A2 A3 A4 A5 A6 A7 A8 A9 A10:Option Addr} {n0 n1 n2 n3 n4 n5 n6 n7 c0 c1 c2 c3 c4 c5 c6 c7 c8 c9 c10:Nat} {al:List (List UInt8)} {own lim peer q0 q1 q2:Int} {gr:List (List UInt8 × Int)} {ky:List Int} {b:Nat} (hX:Blk w b 30 #[.bool sv,.string (bs sw),.string (bs cm),.slice A0 n0 c0,.slice A1 n1 c1,.slice A2 n2 c2,.slice A3 n3 c3,.slice A4 n4 c4,.slice A5 n5 c5,.slice A6 n6 c6,.slice A7 n7 c7,.slice A8 al.length c8,.int .i64 own,.slice A9 gr.length c9,.int .i64 lim,.int .i64 peer,.string (bs us),.slice A10 ky.length c10,.bool ex,.bool ge,.int .u32 q0,.int .u32 q1,.int .u32 q2]):Calls Tryz.prog 168 #[.pointer (some ⟨b,0,none⟩)] w (ErrR (unl (princL peer) [112,101,101,114] 5) w):=by
 have HP:=hide (princ_any peer w)
 have HU:=hide (fun (W:World)=>unless_any (princL peer) ⟨#[112,101,101,114]⟩ 5 (by decide) W)
 have z15:=hX.cell 15
 simp only [List.getElem?_toArray,List.getElem?_cons_zero,List.getElem?_cons_succ] at z15
 have hlt:=hX.lt
 clear hX
 go_enter Tryz.func168,Tryz.ntmps168
 go_wp2_with (first | (go_at_call 166;refine HP.out.mono ?_;rintro e w1 ⟨rfl,rfl⟩) | fail)
 refine (HU.out _).mono ?_
 rintro e w2 hE2
 obtain ⟨v,rfl⟩:=errR_val hE2
 go_wp2_with fail
 go_ret
 exact hE2
theorem cc2_any {sv ex ge:Bool} {sw cm us:List UInt8} {A0 A1 A2 A3 A4 A5 A6 A7 A8 A9 A10:Option Addr} {n0 n1 n2 n3 n4 n5 n6 n7 c0 c1 c2 c3 c4 c5 c6 c7 c8 c9 c10:Nat} {al:List (List UInt8)} {own lim peer q0 q1 q2:Int} {gr:List (List UInt8 × Int)} {ky:List Int} {b:Nat} (hX:Blk w b 30 #[.bool sv,.string (bs sw),.string (bs cm),.slice A0 n0 c0,.slice A1 n1 c1,.slice A2 n2 c2,.slice A3 n3 c3,.slice A4 n4 c4,.slice A5 n5 c5,.slice A6 n6 c6,.slice A7 n7 c7,.slice A8 al.length c8,.int .i64 own,.slice A9 gr.length c9,.int .i64 lim,.int .i64 peer,.string (bs us),.slice A10 ky.length c10,.bool ex,.bool ge,.int .u32 q0,.int .u32 q1,.int .u32 q2]) (h1:us.length≤1000000):Calls Tryz.prog 169 #[.pointer (some ⟨b,0,none⟩)] w (ErrR (unl (userL us) [117,115,101,114] 3) w):=by
 have HP:=hide (show Calls Tryz.prog 170 #[.string (bs us)] w (fun e w'=>e=.returned (.bool (userL us))∧w'=w) from by have:=user_any (bs us) (Nat.le_trans h1 (by decide)) w;rwa [bs_data] at this)
 have HU:=hide (fun (W:World)=>unless_any (userL us) ⟨#[117,115,101,114]⟩ 3 (by decide) W)
 have z16:=hX.cell 16
 simp only [List.getElem?_toArray,List.getElem?_cons_zero,List.getElem?_cons_succ] at z16
 have hlt:=hX.lt
 clear hX
 go_enter Tryz.func169,Tryz.ntmps169
 go_wp2_with (first | (go_at_call 170;refine HP.out.mono ?_;rintro e w1 ⟨rfl,rfl⟩) | fail)
 refine (HU.out _).mono ?_
 rintro e w2 hE2
 obtain ⟨v,rfl⟩:=errR_val hE2
 go_wp2_with fail
 go_ret
 exact hE2
theorem cc3_any {sv ex ge:Bool} {sw cm us:List UInt8} {A0 A1 A2 A3 A4 A5 A6 A7 A8 A9 A10:Option Addr} {n0 n1 n2 n3 n4 n5 n6 n7 c0 c1 c2 c3 c4 c5 c6 c7 c8 c9 c10:Nat} {al:List (List UInt8)} {own lim peer q0 q1 q2:Int} {gr:List (List UInt8 × Int)} {ky:List Int} {ls:List (List (List UInt8))} {b:Nat} (hX:Blk w b 30 #[.bool sv,.string (bs sw),.string (bs cm),.slice A0 n0 c0,.slice A1 n1 c1,.slice A2 n2 c2,.slice A3 n3 c3,.slice A4 n4 c4,.slice A5 n5 c5,.slice A6 n6 c6,.slice A7 n7 c7,.slice A8 al.length c8,.int .i64 own,.slice A9 gr.length c9,.int .i64 lim,.int .i64 peer,.string (bs us),.slice A10 ky.length c10,.bool ex,.bool ge,.int .u32 q0,.int .u32 q1,.int .u32 q2]) (hC:CfM w sw cm us [.slice A0 n0 c0,.slice A1 n1 c1,.slice A2 n2 c2,.slice A3 n3 c3,.slice A4 n4 c4,.slice A5 n5 c5,.slice A6 n6 c6,.slice A7 n7 c7] ls A8 c8 al A9 gr A10 ky):Calls Tryz.prog 171 #[.pointer (some ⟨b,0,none⟩)] w (ErrR (keyE ky) w):=by
 have HP:=hide (keys_any (c:=c10) hC.hky hC.kyl)
 clear hC
 have z17:=hX.cell 17
 simp only [List.getElem?_toArray,List.getElem?_cons_zero,List.getElem?_cons_succ] at z17
 have hlt:=hX.lt
 clear hX
 go_enter Tryz.func171,Tryz.ntmps171
 go_wp2_with (first | fail | fail)
 refine (HP.out).mono ?_
 rintro e w2 hE2
 obtain ⟨v,rfl⟩:=errR_val hE2
 go_wp2_with fail
 go_ret
 exact hE2
theorem cc4_any {sv ex ge:Bool} {sw cm us:List UInt8} {A0 A1 A2 A3 A4 A5 A6 A7 A8 A9 A10:Option Addr} {n0 n1 n2 n3 n4 n5 n6 n7 c0 c1 c2 c3 c4 c5 c6 c7 c8 c9 c10:Nat} {al:List (List UInt8)} {own lim peer q0 q1 q2:Int} {gr:List (List UInt8 × Int)} {ky:List Int} {ls:List (List (List UInt8))} {b:Nat} (hX:Blk w b 30 #[.bool sv,.string (bs sw),.string (bs cm),.slice A0 n0 c0,.slice A1 n1 c1,.slice A2 n2 c2,.slice A3 n3 c3,.slice A4 n4 c4,.slice A5 n5 c5,.slice A6 n6 c6,.slice A7 n7 c7,.slice A8 al.length c8,.int .i64 own,.slice A9 gr.length c9,.int .i64 lim,.int .i64 peer,.string (bs us),.slice A10 ky.length c10,.bool ex,.bool ge,.int .u32 q0,.int .u32 q1,.int .u32 q2]) (hC:CfM w sw cm us [.slice A0 n0 c0,.slice A1 n1 c1,.slice A2 n2 c2,.slice A3 n3 c3,.slice A4 n4 c4,.slice A5 n5 c5,.slice A6 n6 c6,.slice A7 n7 c7] ls A8 c8 al A9 gr A10 ky):Calls Tryz.prog 173 #[.pointer (some ⟨b,0,none⟩)] w (ErrR (denyR (denyE [] al 1)) w):=by
 have HP:=hide (show Calls Tryz.prog 101 #[.slice none 0 0,.slice A8 al.length c8,.int .i64 1] w (ErrR (denyR (denyE [] al 1)) w) from deny_any (A:=none) (c:=0) (gs:=[]) (lim:=1) (fun k hk=>absurd hk (Nat.not_lt_zero _)) (Nat.zero_le _) (fun g hg=>by cases hg) hC.hal hC.alc hC.all hC.aly)
 clear hC
 have z11:=hX.cell 11
 simp only [List.getElem?_toArray,List.getElem?_cons_zero,List.getElem?_cons_succ] at z11
 have hlt:=hX.lt
 clear hX
 go_enter Tryz.func173,Tryz.ntmps173
 go_wp2_with (first | fail | fail)
 refine (HP.out).mono ?_
 rintro e w2 hE2
 obtain ⟨v,rfl⟩:=errR_val hE2
 go_wp2_with fail
 go_ret
 exact hE2
theorem cc5_any {sv ex ge:Bool} {sw cm us:List UInt8} {A0 A1 A2 A3 A4 A5 A6 A7 A8 A9 A10:Option Addr} {n0 n1 n2 n3 n4 n5 n6 n7 c0 c1 c2 c3 c4 c5 c6 c7 c8 c9 c10:Nat} {al:List (List UInt8)} {own lim peer q0 q1 q2:Int} {gr:List (List UInt8 × Int)} {ky:List Int} {b:Nat} (hX:Blk w b 30 #[.bool sv,.string (bs sw),.string (bs cm),.slice A0 n0 c0,.slice A1 n1 c1,.slice A2 n2 c2,.slice A3 n3 c3,.slice A4 n4 c4,.slice A5 n5 c5,.slice A6 n6 c6,.slice A7 n7 c7,.slice A8 al.length c8,.int .i64 own,.slice A9 gr.length c9,.int .i64 lim,.int .i64 peer,.string (bs us),.slice A10 ky.length c10,.bool ex,.bool ge,.int .u32 q0,.int .u32 q1,.int .u32 q2]):Calls Tryz.prog 174 #[.pointer (some ⟨b,0,none⟩)] w (ErrR (unl (groupL q0 q1 q2) [119,105,115,104] 5) w):=by
 have HP:=hide (group_any q0 q1 q2 w)
 have HU:=hide (fun (W:World)=>unless_any (groupL q0 q1 q2) ⟨#[119,105,115,104]⟩ 5 (by decide) W)
 have z20:=hX.cell 20
 have z21:=hX.cell 21
 have z22:=hX.cell 22
 simp only [List.getElem?_toArray,List.getElem?_cons_zero,List.getElem?_cons_succ] at z20 z21 z22
 have hlt:=hX.lt
 clear hX
 go_enter Tryz.func174,Tryz.ntmps174
 go_wp2_with (first | (go_at_call 175;refine HP.out.mono ?_;rintro e w1 ⟨rfl,rfl⟩) | fail)
 refine (HU.out _).mono ?_
 rintro e w2 hE2
 obtain ⟨v,rfl⟩:=errR_val hE2
 go_wp2_with fail
 go_ret
 exact hE2
theorem both_any {sv ex ge:Bool} {sw cm us:List UInt8} {A0 A1 A2 A3 A4 A5 A6 A7 A8 A9 A10:Option Addr} {n0 n1 n2 n3 n4 n5 n6 n7 c0 c1 c2 c3 c4 c5 c6 c7 c8 c9 c10:Nat} {al:List (List UInt8)} {own lim peer q0 q1 q2:Int} {gr:List (List UInt8 × Int)} {ky:List Int} (w:World):Calls Tryz.prog 98 #[.agg #[.bool sv,.string (bs sw),.string (bs cm),.slice A0 n0 c0,.slice A1 n1 c1,.slice A2 n2 c2,.slice A3 n3 c3,.slice A4 n4 c4,.slice A5 n5 c5,.slice A6 n6 c6,.slice A7 n7 c7,.slice A8 al.length c8,.int .i64 own,.slice A9 gr.length c9,.int .i64 lim,.int .i64 peer,.string (bs us),.slice A10 ky.length c10,.bool ex,.bool ge,.int .u32 q0,.int .u32 q1,.int .u32 q2]] w (fun e w'=>e=.returned (.slice (some ⟨w.heap.size+1,0,none⟩) 2 2)∧Below w.heap.size w w'∧Blk w' w.heap.size 30 #[.bool sv,.string (bs sw),.string (bs cm),.slice A0 n0 c0,.slice A1 n1 c1,.slice A2 n2 c2,.slice A3 n3 c3,.slice A4 n4 c4,.slice A5 n5 c5,.slice A6 n6 c6,.slice A7 n7 c7,.slice A8 al.length c8,.int .i64 own,.slice A9 gr.length c9,.int .i64 lim,.int .i64 peer,.string (bs us),.slice A10 ky.length c10,.bool ex,.bool ge,.int .u32 q0,.int .u32 q1,.int .u32 q2]∧Blk w' (w.heap.size+1) 187 #[.func (.func 160) #[] #[.pointer (some ⟨w.heap.size,0,none⟩)],.func (.func 163) #[] #[.pointer (some ⟨w.heap.size,0,none⟩)]]):=by
 obtain ⟨W,hW⟩:∃W,W=(w.alloc (.cells #[.bool sv,.string (bs sw),.string (bs cm),.slice A0 n0 c0,.slice A1 n1 c1,.slice A2 n2 c2,.slice A3 n3 c3,.slice A4 n4 c4,.slice A5 n5 c5,.slice A6 n6 c6,.slice A7 n7 c7,.slice A8 al.length c8,.int .i64 own,.slice A9 gr.length c9,.int .i64 lim,.int .i64 peer,.string (bs us),.slice A10 ky.length c10,.bool ex,.bool ge,.int .u32 q0,.int .u32 q1,.int .u32 q2] 30)).alloc (.cells #[.func (.func 160) #[] #[.pointer (some ⟨w.heap.size,0,none⟩)],.func (.func 163) #[] #[.pointer (some ⟨w.heap.size,0,none⟩)]] 187):=⟨_,rfl⟩
 have hb:Below w.heap.size w W:=by rw [hW];exact bel_by
 have hX:Blk W w.heap.size 30 #[.bool sv,.string (bs sw),.string (bs cm),.slice A0 n0 c0,.slice A1 n1 c1,.slice A2 n2 c2,.slice A3 n3 c3,.slice A4 n4 c4,.slice A5 n5 c5,.slice A6 n6 c6,.slice A7 n7 c7,.slice A8 al.length c8,.int .i64 own,.slice A9 gr.length c9,.int .i64 lim,.int .i64 peer,.string (bs us),.slice A10 ky.length c10,.bool ex,.bool ge,.int .u32 q0,.int .u32 q1,.int .u32 q2]:=by rw [hW];exact (Blk.new w _ _).alloc _
 have hF:Blk W (w.heap.size+1) 187 #[.func (.func 160) #[] #[.pointer (some ⟨w.heap.size,0,none⟩)],.func (.func 163) #[] #[.pointer (some ⟨w.heap.size,0,none⟩)]]:=by rw [hW];exact blk_new2 w _ _ _
 go_enter Tryz.func98,Tryz.ntmps98
 go_wp2_with fail
 rw [←hW]
 go_ret
 exact ⟨rfl,hb,hX,hF⟩
theorem server_any {sv ex ge:Bool} {sw cm us:List UInt8} {A0 A1 A2 A3 A4 A5 A6 A7 A8 A9 A10:Option Addr} {n0 n1 n2 n3 n4 n5 n6 n7 c0 c1 c2 c3 c4 c5 c6 c7 c8 c9 c10:Nat} {al:List (List UInt8)} {own lim peer q0 q1 q2:Int} {gr:List (List UInt8 × Int)} {ky:List Int} (w:World):Calls Tryz.prog 99 #[.agg #[.bool sv,.string (bs sw),.string (bs cm),.slice A0 n0 c0,.slice A1 n1 c1,.slice A2 n2 c2,.slice A3 n3 c3,.slice A4 n4 c4,.slice A5 n5 c5,.slice A6 n6 c6,.slice A7 n7 c7,.slice A8 al.length c8,.int .i64 own,.slice A9 gr.length c9,.int .i64 lim,.int .i64 peer,.string (bs us),.slice A10 ky.length c10,.bool ex,.bool ge,.int .u32 q0,.int .u32 q1,.int .u32 q2]] w (fun e w'=>e=.returned (.slice (some ⟨w.heap.size+1,0,none⟩) 2 2)∧Below w.heap.size w w'∧Blk w' w.heap.size 30 #[.bool sv,.string (bs sw),.string (bs cm),.slice A0 n0 c0,.slice A1 n1 c1,.slice A2 n2 c2,.slice A3 n3 c3,.slice A4 n4 c4,.slice A5 n5 c5,.slice A6 n6 c6,.slice A7 n7 c7,.slice A8 al.length c8,.int .i64 own,.slice A9 gr.length c9,.int .i64 lim,.int .i64 peer,.string (bs us),.slice A10 ky.length c10,.bool ex,.bool ge,.int .u32 q0,.int .u32 q1,.int .u32 q2]∧Blk w' (w.heap.size+1) 187 #[.func (.func 165) #[] #[.pointer (some ⟨w.heap.size,0,none⟩)],.func (.func 167) #[] #[.pointer (some ⟨w.heap.size,0,none⟩)]]):=by
 obtain ⟨W,hW⟩:∃W,W=(w.alloc (.cells #[.bool sv,.string (bs sw),.string (bs cm),.slice A0 n0 c0,.slice A1 n1 c1,.slice A2 n2 c2,.slice A3 n3 c3,.slice A4 n4 c4,.slice A5 n5 c5,.slice A6 n6 c6,.slice A7 n7 c7,.slice A8 al.length c8,.int .i64 own,.slice A9 gr.length c9,.int .i64 lim,.int .i64 peer,.string (bs us),.slice A10 ky.length c10,.bool ex,.bool ge,.int .u32 q0,.int .u32 q1,.int .u32 q2] 30)).alloc (.cells #[.func (.func 165) #[] #[.pointer (some ⟨w.heap.size,0,none⟩)],.func (.func 167) #[] #[.pointer (some ⟨w.heap.size,0,none⟩)]] 187):=⟨_,rfl⟩
 have hb:Below w.heap.size w W:=by rw [hW];exact bel_by
 have hX:Blk W w.heap.size 30 #[.bool sv,.string (bs sw),.string (bs cm),.slice A0 n0 c0,.slice A1 n1 c1,.slice A2 n2 c2,.slice A3 n3 c3,.slice A4 n4 c4,.slice A5 n5 c5,.slice A6 n6 c6,.slice A7 n7 c7,.slice A8 al.length c8,.int .i64 own,.slice A9 gr.length c9,.int .i64 lim,.int .i64 peer,.string (bs us),.slice A10 ky.length c10,.bool ex,.bool ge,.int .u32 q0,.int .u32 q1,.int .u32 q2]:=by rw [hW];exact (Blk.new w _ _).alloc _
 have hF:Blk W (w.heap.size+1) 187 #[.func (.func 165) #[] #[.pointer (some ⟨w.heap.size,0,none⟩)],.func (.func 167) #[] #[.pointer (some ⟨w.heap.size,0,none⟩)]]:=by rw [hW];exact blk_new2 w _ _ _
 go_enter Tryz.func99,Tryz.ntmps99
 go_wp2_with fail
 rw [←hW]
 go_ret
 exact ⟨rfl,hb,hX,hF⟩
theorem client_any {sv ex ge:Bool} {sw cm us:List UInt8} {A0 A1 A2 A3 A4 A5 A6 A7 A8 A9 A10:Option Addr} {n0 n1 n2 n3 n4 n5 n6 n7 c0 c1 c2 c3 c4 c5 c6 c7 c8 c9 c10:Nat} {al:List (List UInt8)} {own lim peer q0 q1 q2:Int} {gr:List (List UInt8 × Int)} {ky:List Int} (w:World):Calls Tryz.prog 100 #[.agg #[.bool sv,.string (bs sw),.string (bs cm),.slice A0 n0 c0,.slice A1 n1 c1,.slice A2 n2 c2,.slice A3 n3 c3,.slice A4 n4 c4,.slice A5 n5 c5,.slice A6 n6 c6,.slice A7 n7 c7,.slice A8 al.length c8,.int .i64 own,.slice A9 gr.length c9,.int .i64 lim,.int .i64 peer,.string (bs us),.slice A10 ky.length c10,.bool ex,.bool ge,.int .u32 q0,.int .u32 q1,.int .u32 q2]] w (fun e w'=>e=.returned (.slice (some ⟨w.heap.size+1,0,none⟩) 5 5)∧Below w.heap.size w w'∧Blk w' w.heap.size 30 #[.bool sv,.string (bs sw),.string (bs cm),.slice A0 n0 c0,.slice A1 n1 c1,.slice A2 n2 c2,.slice A3 n3 c3,.slice A4 n4 c4,.slice A5 n5 c5,.slice A6 n6 c6,.slice A7 n7 c7,.slice A8 al.length c8,.int .i64 own,.slice A9 gr.length c9,.int .i64 lim,.int .i64 peer,.string (bs us),.slice A10 ky.length c10,.bool ex,.bool ge,.int .u32 q0,.int .u32 q1,.int .u32 q2]∧Blk w' (w.heap.size+1) 187 #[.func (.func 168) #[] #[.pointer (some ⟨w.heap.size,0,none⟩)],.func (.func 169) #[] #[.pointer (some ⟨w.heap.size,0,none⟩)],.func (.func 171) #[] #[.pointer (some ⟨w.heap.size,0,none⟩)],.func (.func 173) #[] #[.pointer (some ⟨w.heap.size,0,none⟩)],.func (.func 174) #[] #[.pointer (some ⟨w.heap.size,0,none⟩)]]):=by
 obtain ⟨W,hW⟩:∃W,W=(w.alloc (.cells #[.bool sv,.string (bs sw),.string (bs cm),.slice A0 n0 c0,.slice A1 n1 c1,.slice A2 n2 c2,.slice A3 n3 c3,.slice A4 n4 c4,.slice A5 n5 c5,.slice A6 n6 c6,.slice A7 n7 c7,.slice A8 al.length c8,.int .i64 own,.slice A9 gr.length c9,.int .i64 lim,.int .i64 peer,.string (bs us),.slice A10 ky.length c10,.bool ex,.bool ge,.int .u32 q0,.int .u32 q1,.int .u32 q2] 30)).alloc (.cells #[.func (.func 168) #[] #[.pointer (some ⟨w.heap.size,0,none⟩)],.func (.func 169) #[] #[.pointer (some ⟨w.heap.size,0,none⟩)],.func (.func 171) #[] #[.pointer (some ⟨w.heap.size,0,none⟩)],.func (.func 173) #[] #[.pointer (some ⟨w.heap.size,0,none⟩)],.func (.func 174) #[] #[.pointer (some ⟨w.heap.size,0,none⟩)]] 187):=⟨_,rfl⟩
 have hb:Below w.heap.size w W:=by rw [hW];exact bel_by
 have hX:Blk W w.heap.size 30 #[.bool sv,.string (bs sw),.string (bs cm),.slice A0 n0 c0,.slice A1 n1 c1,.slice A2 n2 c2,.slice A3 n3 c3,.slice A4 n4 c4,.slice A5 n5 c5,.slice A6 n6 c6,.slice A7 n7 c7,.slice A8 al.length c8,.int .i64 own,.slice A9 gr.length c9,.int .i64 lim,.int .i64 peer,.string (bs us),.slice A10 ky.length c10,.bool ex,.bool ge,.int .u32 q0,.int .u32 q1,.int .u32 q2]:=by rw [hW];exact (Blk.new w _ _).alloc _
 have hF:Blk W (w.heap.size+1) 187 #[.func (.func 168) #[] #[.pointer (some ⟨w.heap.size,0,none⟩)],.func (.func 169) #[] #[.pointer (some ⟨w.heap.size,0,none⟩)],.func (.func 171) #[] #[.pointer (some ⟨w.heap.size,0,none⟩)],.func (.func 173) #[] #[.pointer (some ⟨w.heap.size,0,none⟩)],.func (.func 174) #[] #[.pointer (some ⟨w.heap.size,0,none⟩)]]:=by rw [hW];exact blk_new2 w _ _ _
 go_enter Tryz.func100,Tryz.ntmps100
 go_wp2_with fail
 rw [←hW]
 go_ret
 exact ⟨rfl,hb,hX,hF⟩
end
end Go.Proofs.YtkfnepnghnicoaaGreatDoor
