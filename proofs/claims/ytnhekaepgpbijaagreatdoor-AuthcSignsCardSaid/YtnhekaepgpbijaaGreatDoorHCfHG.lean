/- Several of my texts in one: CfG, CfH. -/
import Derived.Test.YtnhekaepgpbijaaGreatDoorHCfKG
import Derived.Deep.MidRow
set_option linter.unusedVariables false
set_option linter.unusedSimpArgs false
set_option maxHeartbeats 40000000
set_option maxRecDepth 100000
namespace Go.Proofs.YtnhekaepgpbijaaGreatDoor
open Go.RowKit Go.ChangeShapes Go.WideShapes Go.Sort
abbrev ErrO:=Option (List (List UInt8) × Int)
def unl (b:Bool) (s:List UInt8) (k:Int):ErrO:=if b=true then none else some ([s],k)
def fstE:List ErrO→ErrO
 | []=>none
 | none :: r=>fstE r
 | some x :: _=>some x
def inC (o:ErrO):ErrO:=o.map fun x=>([99,111,110,102] :: x.1,x.2)
structure CfM (w:World) (sw cm us:List UInt8) (vs:List Value) (ls:List (List (List UInt8))) (A8:Option Addr) (c8:Nat) (al:List (List UInt8)) (A9:Option Addr) (gr:List (List UInt8 × Int)) (A10:Option Addr) (ky:List Int):Prop where
 hsw:sw.length≤1000000
 hcm:cm.length≤1000000
 hus:us.length≤1000000
 hl8:All8 w vs ls
 hal:Txs w (.slice A8 al.length c8) al
 alc:al.length≤c8
 all:al.length≤1000000
 aly:∀y∈al,y.length≤1000000
 hgr:GrC w A9 gr
 grl:gr.length≤1000000
 gry:∀g∈gr,g.1.length≤1000000
 hky:InC w A10 ky
 kyl:ky.length≤1000000
theorem CfM.below {w w':World} {sw cm us:List UInt8} {vs:List Value} {ls:List (List (List UInt8))} {A8:Option Addr} {c8:Nat} {al:List (List UInt8)} {A9:Option Addr} {gr:List (List UInt8 × Int)} {A10:Option Addr} {ky:List Int}
  (h:CfM w sw cm us vs ls A8 c8 al A9 gr A10 ky) (hb:Below w.heap.size w w'):CfM w' sw cm us vs ls A8 c8 al A9 gr A10 ky :=
 ⟨h.hsw,h.hcm,h.hus,h.hl8.below hb,h.hal.below hb,h.alc,h.all,h.aly,h.hgr.below hb,h.grl,h.gry,h.hky.below hb,h.kyl⟩
theorem own_blkC {w:World} {b g n:Nat} {t:TypeId} {vs:List Value} (h:Blk w g t vs.toArray) (hb:b≤g) (hn:vs.length=n) (hm:n≤maxLen):w.ownsRow b t 1 (.slice (some ⟨g,0,none⟩) n n) n vs:=by
 subst hn
 exact ⟨by simp,.inr ⟨g,vs.length,vs.toArray,rfl,hb,h,Nat.le_refl _,hm,by simp,by simp⟩⟩
section
variable {w : World}
theorem unless_any (b:Bool) (s:ByteArray) (k:Int) (hk:(k == 0)=false) (w:World):Calls Tryz.prog 211 #[.bool b,.string s,.int .i64 k] w (ErrR (unl b s.data.toList k) w):=by
 have HO:=hide (fun (W:World)=>fof_any s k hk W)
 clear hk
 cases b with
 | true =>
  go_enter Tryz.func211,Tryz.ntmps211
  go_wp2_with fail
  go_ret
  exact errR_n rfl (Below.refl _ _) rfl
 | false =>
  go_enter Tryz.func211,Tryz.ntmps211
  go_wp2_with (first | (go_at_call 43;refine (HO.out _).mono ?_;rintro e w2 ⟨b,rfl,hi,hb⟩) | fail)
  go_ret
  exact errR_s rfl hb rfl hi
theorem version_any {sv ex ge:Bool} {sw cm us:List UInt8} {A0 A1 A2 A3 A4 A5 A6 A7 A8 A9 A10:Option Addr} {n0 n1 n2 n3 n4 n5 n6 n7 c0 c1 c2 c3 c4 c5 c6 c7 c8 c9 c10:Nat} {al:List (List UInt8)} {own lim peer q0 q1 q2:Int} {gr:List (List UInt8 × Int)} {ky:List Int} (h1:sw.length≤1000000) (h2:cm.length≤1000000):Calls Tryz.prog 212 #[.agg #[.bool sv,.string (bs sw),.string (bs cm),.slice A0 n0 c0,.slice A1 n1 c1,.slice A2 n2 c2,.slice A3 n3 c3,.slice A4 n4 c4,.slice A5 n5 c5,.slice A6 n6 c6,.slice A7 n7 c7,.slice A8 al.length c8,.int .i64 own,.slice A9 gr.length c9,.int .i64 lim,.int .i64 peer,.string (bs us),.slice A10 ky.length c10,.bool ex,.bool ge,.int .u32 q0,.int .u32 q1,.int .u32 q2]] w (fun e w'=>e=.returned (.string (bs (verL sw cm)))∧Below w.heap.size w w'):=by
 obtain ⟨W0,hW0⟩:∃W0,W0=w.alloc (.cells #[.bool sv,.string (bs sw),.string (bs cm),.slice A0 n0 c0,.slice A1 n1 c1,.slice A2 n2 c2,.slice A3 n3 c3,.slice A4 n4 c4,.slice A5 n5 c5,.slice A6 n6 c6,.slice A7 n7 c7,.slice A8 al.length c8,.int .i64 own,.slice A9 gr.length c9,.int .i64 lim,.int .i64 peer,.string (bs us),.slice A10 ky.length c10,.bool ex,.bool ge,.int .u32 q0,.int .u32 q1,.int .u32 q2] 30):=⟨_,rfl⟩
 have hb0:Below w.heap.size w W0:=by rw [hW0];exact bel_by
 have hX0:Blk W0 w.heap.size 30 #[.bool sv,.string (bs sw),.string (bs cm),.slice A0 n0 c0,.slice A1 n1 c1,.slice A2 n2 c2,.slice A3 n3 c3,.slice A4 n4 c4,.slice A5 n5 c5,.slice A6 n6 c6,.slice A7 n7 c7,.slice A8 al.length c8,.int .i64 own,.slice A9 gr.length c9,.int .i64 lim,.int .i64 peer,.string (bs us),.slice A10 ky.length c10,.bool ex,.bool ge,.int .u32 q0,.int .u32 q1,.int .u32 q2]:=by rw [hW0];exact Blk.new w _ _
 have HM:=hide (lmake_any (sw:=bs sw) (cm:=bs cm) h1 h2 W0)
 rw [bs_data,bs_data] at HM
 have z0:=hX0.cell 0
 have z1:=hX0.cell 1
 have z2:=hX0.cell 2
 have z3:=hX0.cell 3
 have z4:=hX0.cell 4
 have z5:=hX0.cell 5
 have z6:=hX0.cell 6
 have z7:=hX0.cell 7
 have z8:=hX0.cell 8
 have z9:=hX0.cell 9
 have z10:=hX0.cell 10
 have z11:=hX0.cell 11
 have z12:=hX0.cell 12
 have z13:=hX0.cell 13
 have z14:=hX0.cell 14
 have z15:=hX0.cell 15
 have z16:=hX0.cell 16
 have z17:=hX0.cell 17
 have z18:=hX0.cell 18
 have z19:=hX0.cell 19
 have z20:=hX0.cell 20
 have z21:=hX0.cell 21
 have z22:=hX0.cell 22
 simp only [List.getElem?_toArray,List.getElem?_cons_zero,List.getElem?_cons_succ] at z0 z1 z2 z3 z4 z5 z6 z7 z8 z9 z10 z11 z12 z13 z14 z15 z16 z17 z18 z19 z20 z21 z22
 have HB:=hide hb0
 clear hb0 hX0 h1 h2
 go_enter Tryz.func212,Tryz.ntmps212
 go_upto_region 1 with fail
 rw [←hW0]
 clear hW0
 go_wp2_with (first | (go_at_call 271;refine HM.out.mono ?_;rintro e w1 ⟨rfl,rfl⟩) | fail)
 go_ret
 exact ⟨rfl,HB.out⟩
theorem rversion_any {sv ex ge:Bool} {sw cm us:List UInt8} {A0 A1 A2 A3 A4 A5 A6 A7 A8 A9 A10:Option Addr} {n0 n1 n2 n3 n4 n5 n6 n7 c0 c1 c2 c3 c4 c5 c6 c7 c8 c9 c10:Nat} {al:List (List UInt8)} {own lim peer q0 q1 q2:Int} {gr:List (List UInt8 × Int)} {ky:List Int} (h1:sw.length≤1000000) (h2:cm.length≤1000000):Calls Tryz.prog 149 #[.agg #[.bool sv,.string (bs sw),.string (bs cm),.slice A0 n0 c0,.slice A1 n1 c1,.slice A2 n2 c2,.slice A3 n3 c3,.slice A4 n4 c4,.slice A5 n5 c5,.slice A6 n6 c6,.slice A7 n7 c7,.slice A8 al.length c8,.int .i64 own,.slice A9 gr.length c9,.int .i64 lim,.int .i64 peer,.string (bs us),.slice A10 ky.length c10,.bool ex,.bool ge,.int .u32 q0,.int .u32 q1,.int .u32 q2]] w (fun e w'=>e=.returned (.string (bs (verL sw cm)))∧Below w.heap.size w w'):=by
 obtain ⟨W0,hW0⟩:∃W0,W0=w.alloc (.cells #[.bool sv,.string (bs sw),.string (bs cm),.slice A0 n0 c0,.slice A1 n1 c1,.slice A2 n2 c2,.slice A3 n3 c3,.slice A4 n4 c4,.slice A5 n5 c5,.slice A6 n6 c6,.slice A7 n7 c7,.slice A8 al.length c8,.int .i64 own,.slice A9 gr.length c9,.int .i64 lim,.int .i64 peer,.string (bs us),.slice A10 ky.length c10,.bool ex,.bool ge,.int .u32 q0,.int .u32 q1,.int .u32 q2] 30):=⟨_,rfl⟩
 have hb0:Below w.heap.size w W0:=by rw [hW0];exact bel_by
 have hX0:Blk W0 w.heap.size 30 #[.bool sv,.string (bs sw),.string (bs cm),.slice A0 n0 c0,.slice A1 n1 c1,.slice A2 n2 c2,.slice A3 n3 c3,.slice A4 n4 c4,.slice A5 n5 c5,.slice A6 n6 c6,.slice A7 n7 c7,.slice A8 al.length c8,.int .i64 own,.slice A9 gr.length c9,.int .i64 lim,.int .i64 peer,.string (bs us),.slice A10 ky.length c10,.bool ex,.bool ge,.int .u32 q0,.int .u32 q1,.int .u32 q2]:=by rw [hW0];exact Blk.new w _ _
 have HM:=hide (rmake_any (sw:=bs sw) (cm:=bs cm) h1 h2 W0)
 rw [bs_data,bs_data] at HM
 have z0:=hX0.cell 0
 have z1:=hX0.cell 1
 have z2:=hX0.cell 2
 have z3:=hX0.cell 3
 have z4:=hX0.cell 4
 have z5:=hX0.cell 5
 have z6:=hX0.cell 6
 have z7:=hX0.cell 7
 have z8:=hX0.cell 8
 have z9:=hX0.cell 9
 have z10:=hX0.cell 10
 have z11:=hX0.cell 11
 have z12:=hX0.cell 12
 have z13:=hX0.cell 13
 have z14:=hX0.cell 14
 have z15:=hX0.cell 15
 have z16:=hX0.cell 16
 have z17:=hX0.cell 17
 have z18:=hX0.cell 18
 have z19:=hX0.cell 19
 have z20:=hX0.cell 20
 have z21:=hX0.cell 21
 have z22:=hX0.cell 22
 simp only [List.getElem?_toArray,List.getElem?_cons_zero,List.getElem?_cons_succ] at z0 z1 z2 z3 z4 z5 z6 z7 z8 z9 z10 z11 z12 z13 z14 z15 z16 z17 z18 z19 z20 z21 z22
 have HB:=hide hb0
 clear hb0 hX0 h1 h2
 go_enter Tryz.func149,Tryz.ntmps149
 go_upto_region 1 with fail
 rw [←hW0]
 clear hW0
 go_wp2_with (first | (go_at_call 227;refine HM.out.mono ?_;rintro e w1 ⟨rfl,rfl⟩) | fail)
 go_ret
 exact ⟨rfl,HB.out⟩
theorem str_ne {l:List UInt8}:(!(bs l).toList.isEmpty)=(l != []):=by rw [bs_toList];cases l <;> rfl
theorem errR_val {o:ErrO} {e:Ending} {w':World} (h:ErrR o w e w'):∃v,e=.returned v:=by
 obtain ⟨_,h⟩:=h
 cases o with
 | none=>exact ⟨_,h⟩
 | some x=>obtain ⟨b,h,_⟩:=h;exact ⟨_,h⟩
theorem rangeC {b:Nat} {ty:TypeId} {cs:List Value} (hX:Blk w b ty cs.toArray):w.rangeAt b 0 cs:=fun j v hv=>by rw [Nat.zero_add,hX.cell j];simpa using hv
theorem infoConf:(Tryz.prog.info? 30).map (·.size)=some 23:=by kernel_rfl
theorem wpList_load_conf {ops:Array Oper} {rest:List Oper} {op:Oper} {a:Act} {Q:Exit→Act→World→Prop} (hgd:op.guard=none) (x:Operand) (ho:op.op=.load 30 x) {b:Nat} (hx:a.eval x=.pointer (some ⟨b,0,none⟩)) {cs:List Value} (hX:Blk w b 30 cs.toArray) (hl:cs.length=23)
  (h:wpList Tryz.prog ops Q rest (a.put op.dst (.agg cs.toArray)) w):wpList Tryz.prog ops Q (op :: rest) a w :=
 wpList_load_mid hgd 30 x ho b 0 hx cs _ (rangeC hX) Tryz.underlying30 rfl (by rw [hl];exact infoConf) h
theorem wpList_move_ {ops:Array Oper} {rest:List Oper} {op:Oper} {a:Act} {Q:Exit→Act→World→Prop} (hgd:op.guard=none) (x:Operand) (ho:op.op=.move x)
  (h:wpList Tryz.prog ops Q rest (a.put op.dst (a.eval x)) w):wpList Tryz.prog ops Q (op :: rest) a w :=
 wpList_plain hgd fun _ hK=>by
  unfold Oper.wp execOp
  simp only [ho]
  exact hK _ _ h
theorem errR_ret {w1:World} {o:ErrO} {e:Ending} {w':World} (h:ErrR o w1 e w') (hb:Below w.heap.size w w1):ErrR o w e w':=⟨hb.trans (h.1.mono hb.size),h.2⟩
theorem cb1_any {sv ex ge:Bool} {sw cm us:List UInt8} {A0 A1 A2 A3 A4 A5 A6 A7 A8 A9 A10:Option Addr} {n0 n1 n2 n3 n4 n5 n6 n7 c0 c1 c2 c3 c4 c5 c6 c7 c8 c9 c10:Nat} {al:List (List UInt8)} {own lim peer q0 q1 q2:Int} {gr:List (List UInt8 × Int)} {ky:List Int} {b:Nat} (hX:Blk w b 30 #[.bool sv,.string (bs sw),.string (bs cm),.slice A0 n0 c0,.slice A1 n1 c1,.slice A2 n2 c2,.slice A3 n3 c3,.slice A4 n4 c4,.slice A5 n5 c5,.slice A6 n6 c6,.slice A7 n7 c7,.slice A8 al.length c8,.int .i64 own,.slice A9 gr.length c9,.int .i64 lim,.int .i64 peer,.string (bs us),.slice A10 ky.length c10,.bool ex,.bool ge,.int .u32 q0,.int .u32 q1,.int .u32 q2]) (h1:sw.length≤1000000) (h2:cm.length≤1000000):Calls Tryz.prog 210 #[.pointer (some ⟨b,0,none⟩)] w (ErrR (unl (verL sw cm != []) [118,101,114,115,105,111,110] 1) w):=by
 have HV:=hide (version_any (w:=w) (sv:=sv) (ex:=ex) (ge:=ge) (us:=us) (A0:=A0) (A1:=A1) (A2:=A2) (A3:=A3) (A4:=A4) (A5:=A5) (A6:=A6) (A7:=A7) (A8:=A8) (A9:=A9) (A10:=A10) (n0:=n0) (n1:=n1) (n2:=n2) (n3:=n3) (n4:=n4) (n5:=n5) (n6:=n6) (n7:=n7) (c0:=c0) (c1:=c1) (c2:=c2) (c3:=c3) (c4:=c4) (c5:=c5) (c6:=c6) (c7:=c7) (c8:=c8) (c9:=c9) (c10:=c10) (al:=al) (own:=own) (lim:=lim) (peer:=peer) (q0:=q0) (q1:=q1) (q2:=q2) (gr:=gr) (ky:=ky) h1 h2)
 have HU:=hide (fun (W:World)=>show Calls Tryz.prog 211 #[.bool (!(bs (verL sw cm)).toList.isEmpty),.string ⟨#[118,101,114,115,105,111,110]⟩,.int .i64 1] W (ErrR (unl (verL sw cm != []) [118,101,114,115,105,111,110] 1) W) from by rw [str_ne];exact unless_any (verL sw cm != []) ⟨#[118,101,114,115,105,111,110]⟩ 1 (by decide) W)
 generalize verL sw cm=vv at HV HU ⊢
 have hlt:=hX.lt
 go_enter Tryz.func210,Tryz.ntmps210
 go_upto_region 1 with fail
 refine wp_region_lit ?_
 refine wpList_load_conf rfl (.tmp 0) rfl (by rfl) hX rfl ?_
 generalize Value.agg #[.bool sv,.string (bs sw),.string (bs cm),.slice A0 n0 c0,.slice A1 n1 c1,.slice A2 n2 c2,.slice A3 n3 c3,.slice A4 n4 c4,.slice A5 n5 c5,.slice A6 n6 c6,.slice A7 n7 c7,.slice A8 al.length c8,.int .i64 own,.slice A9 gr.length c9,.int .i64 lim,.int .i64 peer,.string (bs us),.slice A10 ky.length c10,.bool ex,.bool ge,.int .u32 q0,.int .u32 q1,.int .u32 q2]=CX at HV ⊢
 clear hX
 go_wp2_with (first | (go_at_call 212;refine HV.out.mono ?_;rintro e w1 ⟨rfl,hb1⟩) | fail)
 refine (HU.out _).mono ?_
 rintro e w2 hE2
 obtain ⟨v,rfl⟩:=errR_val hE2
 go_wp2_with fail
 go_ret
 exact errR_ret hE2 hb1
theorem cb2_any {sv ex ge:Bool} {sw cm us:List UInt8} {A0 A1 A2 A3 A4 A5 A6 A7 A8 A9 A10:Option Addr} {n0 n1 n2 n3 n4 n5 n6 n7 c0 c1 c2 c3 c4 c5 c6 c7 c8 c9 c10:Nat} {al:List (List UInt8)} {own lim peer q0 q1 q2:Int} {gr:List (List UInt8 × Int)} {ky:List Int} {ls:List (List (List UInt8))} {b:Nat} (hX:Blk w b 30 #[.bool sv,.string (bs sw),.string (bs cm),.slice A0 n0 c0,.slice A1 n1 c1,.slice A2 n2 c2,.slice A3 n3 c3,.slice A4 n4 c4,.slice A5 n5 c5,.slice A6 n6 c6,.slice A7 n7 c7,.slice A8 al.length c8,.int .i64 own,.slice A9 gr.length c9,.int .i64 lim,.int .i64 peer,.string (bs us),.slice A10 ky.length c10,.bool ex,.bool ge,.int .u32 q0,.int .u32 q1,.int .u32 q2]) (hM:MethV w) (hW:WordV w) (h8:All8 w [.slice A0 n0 c0,.slice A1 n1 c1,.slice A2 n2 c2,.slice A3 n3 c3,.slice A4 n4 c4,.slice A5 n5 c5,.slice A6 n6 c6,.slice A7 n7 c7] ls):Calls Tryz.prog 213 #[.pointer (some ⟨b,0,none⟩)] w (ErrR (prR (prW ls)) w):=by
 have HP:=hide (pcheck_any hM hW h8)
 clear hM hW h8
 have z3:=hX.cell 3
 have z4:=hX.cell 4
 have z5:=hX.cell 5
 have z6:=hX.cell 6
 have z7:=hX.cell 7
 have z8:=hX.cell 8
 have z9:=hX.cell 9
 have z10:=hX.cell 10
 simp only [List.getElem?_toArray,List.getElem?_cons_zero,List.getElem?_cons_succ] at z3 z4 z5 z6 z7 z8 z9 z10
 have hlt:=hX.lt
 clear hX
 go_enter Tryz.func213,Tryz.ntmps213
 go_wp2_with (first | fail | fail)
 refine (HP.out).mono ?_
 rintro e w2 hE2
 obtain ⟨v,rfl⟩:=errR_val hE2
 go_wp2_with fail
 go_ret
 exact hE2
theorem cs1_any {sv ex ge:Bool} {sw cm us:List UInt8} {A0 A1 A2 A3 A4 A5 A6 A7 A8 A9 A10:Option Addr} {n0 n1 n2 n3 n4 n5 n6 n7 c0 c1 c2 c3 c4 c5 c6 c7 c8 c9 c10:Nat} {al:List (List UInt8)} {own lim peer q0 q1 q2:Int} {gr:List (List UInt8 × Int)} {ky:List Int} {b:Nat} (hX:Blk w b 30 #[.bool sv,.string (bs sw),.string (bs cm),.slice A0 n0 c0,.slice A1 n1 c1,.slice A2 n2 c2,.slice A3 n3 c3,.slice A4 n4 c4,.slice A5 n5 c5,.slice A6 n6 c6,.slice A7 n7 c7,.slice A8 al.length c8,.int .i64 own,.slice A9 gr.length c9,.int .i64 lim,.int .i64 peer,.string (bs us),.slice A10 ky.length c10,.bool ex,.bool ge,.int .u32 q0,.int .u32 q1,.int .u32 q2]):Calls Tryz.prog 215 #[.pointer (some ⟨b,0,none⟩)] w (ErrR (unl (princL own) [111,119,110] 5) w):=by
 have HP:=hide (princ_any own w)
 have HU:=hide (fun (W:World)=>unless_any (princL own) ⟨#[111,119,110]⟩ 5 (by decide) W)
 have z12:=hX.cell 12
 simp only [List.getElem?_toArray,List.getElem?_cons_zero,List.getElem?_cons_succ] at z12
 have hlt:=hX.lt
 clear hX
 go_enter Tryz.func215,Tryz.ntmps215
 go_wp2_with (first | (go_at_call 216;refine HP.out.mono ?_;rintro e w1 ⟨rfl,rfl⟩) | fail)
 refine (HU.out _).mono ?_
 rintro e w2 hE2
 obtain ⟨v,rfl⟩:=errR_val hE2
 go_wp2_with fail
 go_ret
 exact hE2
theorem cs2_any {sv ex ge:Bool} {sw cm us:List UInt8} {A0 A1 A2 A3 A4 A5 A6 A7 A8 A9 A10:Option Addr} {n0 n1 n2 n3 n4 n5 n6 n7 c0 c1 c2 c3 c4 c5 c6 c7 c8 c9 c10:Nat} {al:List (List UInt8)} {own lim peer q0 q1 q2:Int} {gr:List (List UInt8 × Int)} {ky:List Int} {ls:List (List (List UInt8))} {b:Nat} (hX:Blk w b 30 #[.bool sv,.string (bs sw),.string (bs cm),.slice A0 n0 c0,.slice A1 n1 c1,.slice A2 n2 c2,.slice A3 n3 c3,.slice A4 n4 c4,.slice A5 n5 c5,.slice A6 n6 c6,.slice A7 n7 c7,.slice A8 al.length c8,.int .i64 own,.slice A9 gr.length c9,.int .i64 lim,.int .i64 peer,.string (bs us),.slice A10 ky.length c10,.bool ex,.bool ge,.int .u32 q0,.int .u32 q1,.int .u32 q2]) (hC:CfM w sw cm us [.slice A0 n0 c0,.slice A1 n1 c1,.slice A2 n2 c2,.slice A3 n3 c3,.slice A4 n4 c4,.slice A5 n5 c5,.slice A6 n6 c6,.slice A7 n7 c7] ls A8 c8 al A9 gr A10 ky):Calls Tryz.prog 217 #[.pointer (some ⟨b,0,none⟩)] w (ErrR (denyR (denyE gr al lim)) w):=by
 have HP:=hide (deny_any (c:=c9) (lim:=lim) hC.hgr hC.grl hC.gry hC.hal hC.alc hC.all hC.aly)
 clear hC
 have z11:=hX.cell 11
 have z13:=hX.cell 13
 have z14:=hX.cell 14
 simp only [List.getElem?_toArray,List.getElem?_cons_zero,List.getElem?_cons_succ] at z11 z13 z14
 have hlt:=hX.lt
 clear hX
 go_enter Tryz.func217,Tryz.ntmps217
 go_wp2_with (first | fail | fail)
 refine (HP.out).mono ?_
 rintro e w2 hE2
 obtain ⟨v,rfl⟩:=errR_val hE2
 go_wp2_with fail
 go_ret
 exact hE2
theorem cc1_any {sv ex ge:Bool} {sw cm us:List UInt8} {A0 A1 A2 A3 A4 A5 A6 A7 A8 A9 A10:Option Addr} {n0 n1 n2 n3 n4 n5 n6 n7 c0 c1 c2 c3 c4 c5 c6 c7 c8 c9 c10:Nat} {al:List (List UInt8)} {own lim peer q0 q1 q2:Int} {gr:List (List UInt8 × Int)} {ky:List Int} {b:Nat} (hX:Blk w b 30 #[.bool sv,.string (bs sw),.string (bs cm),.slice A0 n0 c0,.slice A1 n1 c1,.slice A2 n2 c2,.slice A3 n3 c3,.slice A4 n4 c4,.slice A5 n5 c5,.slice A6 n6 c6,.slice A7 n7 c7,.slice A8 al.length c8,.int .i64 own,.slice A9 gr.length c9,.int .i64 lim,.int .i64 peer,.string (bs us),.slice A10 ky.length c10,.bool ex,.bool ge,.int .u32 q0,.int .u32 q1,.int .u32 q2]):Calls Tryz.prog 218 #[.pointer (some ⟨b,0,none⟩)] w (ErrR (unl (princL peer) [112,101,101,114] 5) w):=by
 have HP:=hide (princ_any peer w)
 have HU:=hide (fun (W:World)=>unless_any (princL peer) ⟨#[112,101,101,114]⟩ 5 (by decide) W)
 have z15:=hX.cell 15
 simp only [List.getElem?_toArray,List.getElem?_cons_zero,List.getElem?_cons_succ] at z15
 have hlt:=hX.lt
 clear hX
 go_enter Tryz.func218,Tryz.ntmps218
 go_wp2_with (first | (go_at_call 216;refine HP.out.mono ?_;rintro e w1 ⟨rfl,rfl⟩) | fail)
 refine (HU.out _).mono ?_
 rintro e w2 hE2
 obtain ⟨v,rfl⟩:=errR_val hE2
 go_wp2_with fail
 go_ret
 exact hE2
theorem cc2_any {sv ex ge:Bool} {sw cm us:List UInt8} {A0 A1 A2 A3 A4 A5 A6 A7 A8 A9 A10:Option Addr} {n0 n1 n2 n3 n4 n5 n6 n7 c0 c1 c2 c3 c4 c5 c6 c7 c8 c9 c10:Nat} {al:List (List UInt8)} {own lim peer q0 q1 q2:Int} {gr:List (List UInt8 × Int)} {ky:List Int} {b:Nat} (hX:Blk w b 30 #[.bool sv,.string (bs sw),.string (bs cm),.slice A0 n0 c0,.slice A1 n1 c1,.slice A2 n2 c2,.slice A3 n3 c3,.slice A4 n4 c4,.slice A5 n5 c5,.slice A6 n6 c6,.slice A7 n7 c7,.slice A8 al.length c8,.int .i64 own,.slice A9 gr.length c9,.int .i64 lim,.int .i64 peer,.string (bs us),.slice A10 ky.length c10,.bool ex,.bool ge,.int .u32 q0,.int .u32 q1,.int .u32 q2]) (h1:us.length≤1000000):Calls Tryz.prog 219 #[.pointer (some ⟨b,0,none⟩)] w (ErrR (unl (userL us) [117,115,101,114] 3) w):=by
 have HP:=hide (show Calls Tryz.prog 220 #[.string (bs us)] w (fun e w'=>e=.returned (.bool (userL us))∧w'=w) from by have:=user_any (bs us) (Nat.le_trans h1 (by decide)) w;rwa [bs_data] at this)
 have HU:=hide (fun (W:World)=>unless_any (userL us) ⟨#[117,115,101,114]⟩ 3 (by decide) W)
 have z16:=hX.cell 16
 simp only [List.getElem?_toArray,List.getElem?_cons_zero,List.getElem?_cons_succ] at z16
 have hlt:=hX.lt
 clear hX
 go_enter Tryz.func219,Tryz.ntmps219
 go_wp2_with (first | (go_at_call 220;refine HP.out.mono ?_;rintro e w1 ⟨rfl,rfl⟩) | fail)
 refine (HU.out _).mono ?_
 rintro e w2 hE2
 obtain ⟨v,rfl⟩:=errR_val hE2
 go_wp2_with fail
 go_ret
 exact hE2
theorem cc3_any {sv ex ge:Bool} {sw cm us:List UInt8} {A0 A1 A2 A3 A4 A5 A6 A7 A8 A9 A10:Option Addr} {n0 n1 n2 n3 n4 n5 n6 n7 c0 c1 c2 c3 c4 c5 c6 c7 c8 c9 c10:Nat} {al:List (List UInt8)} {own lim peer q0 q1 q2:Int} {gr:List (List UInt8 × Int)} {ky:List Int} {ls:List (List (List UInt8))} {b:Nat} (hX:Blk w b 30 #[.bool sv,.string (bs sw),.string (bs cm),.slice A0 n0 c0,.slice A1 n1 c1,.slice A2 n2 c2,.slice A3 n3 c3,.slice A4 n4 c4,.slice A5 n5 c5,.slice A6 n6 c6,.slice A7 n7 c7,.slice A8 al.length c8,.int .i64 own,.slice A9 gr.length c9,.int .i64 lim,.int .i64 peer,.string (bs us),.slice A10 ky.length c10,.bool ex,.bool ge,.int .u32 q0,.int .u32 q1,.int .u32 q2]) (hC:CfM w sw cm us [.slice A0 n0 c0,.slice A1 n1 c1,.slice A2 n2 c2,.slice A3 n3 c3,.slice A4 n4 c4,.slice A5 n5 c5,.slice A6 n6 c6,.slice A7 n7 c7] ls A8 c8 al A9 gr A10 ky):Calls Tryz.prog 221 #[.pointer (some ⟨b,0,none⟩)] w (ErrR (keyE ky) w):=by
 have HP:=hide (keys_any (c:=c10) hC.hky hC.kyl)
 clear hC
 have z17:=hX.cell 17
 simp only [List.getElem?_toArray,List.getElem?_cons_zero,List.getElem?_cons_succ] at z17
 have hlt:=hX.lt
 clear hX
 go_enter Tryz.func221,Tryz.ntmps221
 go_wp2_with (first | fail | fail)
 refine (HP.out).mono ?_
 rintro e w2 hE2
 obtain ⟨v,rfl⟩:=errR_val hE2
 go_wp2_with fail
 go_ret
 exact hE2
theorem cc4_any {sv ex ge:Bool} {sw cm us:List UInt8} {A0 A1 A2 A3 A4 A5 A6 A7 A8 A9 A10:Option Addr} {n0 n1 n2 n3 n4 n5 n6 n7 c0 c1 c2 c3 c4 c5 c6 c7 c8 c9 c10:Nat} {al:List (List UInt8)} {own lim peer q0 q1 q2:Int} {gr:List (List UInt8 × Int)} {ky:List Int} {ls:List (List (List UInt8))} {b:Nat} (hX:Blk w b 30 #[.bool sv,.string (bs sw),.string (bs cm),.slice A0 n0 c0,.slice A1 n1 c1,.slice A2 n2 c2,.slice A3 n3 c3,.slice A4 n4 c4,.slice A5 n5 c5,.slice A6 n6 c6,.slice A7 n7 c7,.slice A8 al.length c8,.int .i64 own,.slice A9 gr.length c9,.int .i64 lim,.int .i64 peer,.string (bs us),.slice A10 ky.length c10,.bool ex,.bool ge,.int .u32 q0,.int .u32 q1,.int .u32 q2]) (hC:CfM w sw cm us [.slice A0 n0 c0,.slice A1 n1 c1,.slice A2 n2 c2,.slice A3 n3 c3,.slice A4 n4 c4,.slice A5 n5 c5,.slice A6 n6 c6,.slice A7 n7 c7] ls A8 c8 al A9 gr A10 ky):Calls Tryz.prog 223 #[.pointer (some ⟨b,0,none⟩)] w (ErrR (denyR (denyE [] al 1)) w):=by
 have HP:=hide (show Calls Tryz.prog 186 #[.slice none 0 0,.slice A8 al.length c8,.int .i64 1] w (ErrR (denyR (denyE [] al 1)) w) from deny_any (A:=none) (c:=0) (gs:=[]) (lim:=1) (fun k hk=>absurd hk (Nat.not_lt_zero _)) (Nat.zero_le _) (fun g hg=>by cases hg) hC.hal hC.alc hC.all hC.aly)
 clear hC
 have z11:=hX.cell 11
 simp only [List.getElem?_toArray,List.getElem?_cons_zero,List.getElem?_cons_succ] at z11
 have hlt:=hX.lt
 clear hX
 go_enter Tryz.func223,Tryz.ntmps223
 go_wp2_with (first | fail | fail)
 refine (HP.out).mono ?_
 rintro e w2 hE2
 obtain ⟨v,rfl⟩:=errR_val hE2
 go_wp2_with fail
 go_ret
 exact hE2
theorem cc5_any {sv ex ge:Bool} {sw cm us:List UInt8} {A0 A1 A2 A3 A4 A5 A6 A7 A8 A9 A10:Option Addr} {n0 n1 n2 n3 n4 n5 n6 n7 c0 c1 c2 c3 c4 c5 c6 c7 c8 c9 c10:Nat} {al:List (List UInt8)} {own lim peer q0 q1 q2:Int} {gr:List (List UInt8 × Int)} {ky:List Int} {b:Nat} (hX:Blk w b 30 #[.bool sv,.string (bs sw),.string (bs cm),.slice A0 n0 c0,.slice A1 n1 c1,.slice A2 n2 c2,.slice A3 n3 c3,.slice A4 n4 c4,.slice A5 n5 c5,.slice A6 n6 c6,.slice A7 n7 c7,.slice A8 al.length c8,.int .i64 own,.slice A9 gr.length c9,.int .i64 lim,.int .i64 peer,.string (bs us),.slice A10 ky.length c10,.bool ex,.bool ge,.int .u32 q0,.int .u32 q1,.int .u32 q2]):Calls Tryz.prog 224 #[.pointer (some ⟨b,0,none⟩)] w (ErrR (unl (groupL q0 q1 q2) [119,105,115,104] 5) w):=by
 have HP:=hide (group_any q0 q1 q2 w)
 have HU:=hide (fun (W:World)=>unless_any (groupL q0 q1 q2) ⟨#[119,105,115,104]⟩ 5 (by decide) W)
 have z20:=hX.cell 20
 have z21:=hX.cell 21
 have z22:=hX.cell 22
 simp only [List.getElem?_toArray,List.getElem?_cons_zero,List.getElem?_cons_succ] at z20 z21 z22
 have hlt:=hX.lt
 clear hX
 go_enter Tryz.func224,Tryz.ntmps224
 go_wp2_with (first | (go_at_call 225;refine HP.out.mono ?_;rintro e w1 ⟨rfl,rfl⟩) | fail)
 refine (HU.out _).mono ?_
 rintro e w2 hE2
 obtain ⟨v,rfl⟩:=errR_val hE2
 go_wp2_with fail
 go_ret
 exact hE2
theorem both_any {sv ex ge:Bool} {sw cm us:List UInt8} {A0 A1 A2 A3 A4 A5 A6 A7 A8 A9 A10:Option Addr} {n0 n1 n2 n3 n4 n5 n6 n7 c0 c1 c2 c3 c4 c5 c6 c7 c8 c9 c10:Nat} {al:List (List UInt8)} {own lim peer q0 q1 q2:Int} {gr:List (List UInt8 × Int)} {ky:List Int} (w:World):Calls Tryz.prog 138 #[.agg #[.bool sv,.string (bs sw),.string (bs cm),.slice A0 n0 c0,.slice A1 n1 c1,.slice A2 n2 c2,.slice A3 n3 c3,.slice A4 n4 c4,.slice A5 n5 c5,.slice A6 n6 c6,.slice A7 n7 c7,.slice A8 al.length c8,.int .i64 own,.slice A9 gr.length c9,.int .i64 lim,.int .i64 peer,.string (bs us),.slice A10 ky.length c10,.bool ex,.bool ge,.int .u32 q0,.int .u32 q1,.int .u32 q2]] w (fun e w'=>e=.returned (.slice (some ⟨w.heap.size+1,0,none⟩) 2 2)∧Below w.heap.size w w'∧Blk w' w.heap.size 30 #[.bool sv,.string (bs sw),.string (bs cm),.slice A0 n0 c0,.slice A1 n1 c1,.slice A2 n2 c2,.slice A3 n3 c3,.slice A4 n4 c4,.slice A5 n5 c5,.slice A6 n6 c6,.slice A7 n7 c7,.slice A8 al.length c8,.int .i64 own,.slice A9 gr.length c9,.int .i64 lim,.int .i64 peer,.string (bs us),.slice A10 ky.length c10,.bool ex,.bool ge,.int .u32 q0,.int .u32 q1,.int .u32 q2]∧Blk w' (w.heap.size+1) 224 #[.func (.func 210) #[] #[.pointer (some ⟨w.heap.size,0,none⟩)],.func (.func 213) #[] #[.pointer (some ⟨w.heap.size,0,none⟩)]]):=by
 obtain ⟨W,hW⟩:∃W,W=(w.alloc (.cells #[.bool sv,.string (bs sw),.string (bs cm),.slice A0 n0 c0,.slice A1 n1 c1,.slice A2 n2 c2,.slice A3 n3 c3,.slice A4 n4 c4,.slice A5 n5 c5,.slice A6 n6 c6,.slice A7 n7 c7,.slice A8 al.length c8,.int .i64 own,.slice A9 gr.length c9,.int .i64 lim,.int .i64 peer,.string (bs us),.slice A10 ky.length c10,.bool ex,.bool ge,.int .u32 q0,.int .u32 q1,.int .u32 q2] 30)).alloc (.cells #[.func (.func 210) #[] #[.pointer (some ⟨w.heap.size,0,none⟩)],.func (.func 213) #[] #[.pointer (some ⟨w.heap.size,0,none⟩)]] 224):=⟨_,rfl⟩
 have hb:Below w.heap.size w W:=by rw [hW];exact bel_by
 have hX:Blk W w.heap.size 30 #[.bool sv,.string (bs sw),.string (bs cm),.slice A0 n0 c0,.slice A1 n1 c1,.slice A2 n2 c2,.slice A3 n3 c3,.slice A4 n4 c4,.slice A5 n5 c5,.slice A6 n6 c6,.slice A7 n7 c7,.slice A8 al.length c8,.int .i64 own,.slice A9 gr.length c9,.int .i64 lim,.int .i64 peer,.string (bs us),.slice A10 ky.length c10,.bool ex,.bool ge,.int .u32 q0,.int .u32 q1,.int .u32 q2]:=by rw [hW];exact (Blk.new w _ _).alloc _
 have hF:Blk W (w.heap.size+1) 224 #[.func (.func 210) #[] #[.pointer (some ⟨w.heap.size,0,none⟩)],.func (.func 213) #[] #[.pointer (some ⟨w.heap.size,0,none⟩)]]:=by rw [hW];exact blk_new2 w _ _ _
 go_enter Tryz.func138,Tryz.ntmps138
 go_wp2_with fail
 rw [←hW]
 go_ret
 exact ⟨rfl,hb,hX,hF⟩
theorem server_any {sv ex ge:Bool} {sw cm us:List UInt8} {A0 A1 A2 A3 A4 A5 A6 A7 A8 A9 A10:Option Addr} {n0 n1 n2 n3 n4 n5 n6 n7 c0 c1 c2 c3 c4 c5 c6 c7 c8 c9 c10:Nat} {al:List (List UInt8)} {own lim peer q0 q1 q2:Int} {gr:List (List UInt8 × Int)} {ky:List Int} (w:World):Calls Tryz.prog 139 #[.agg #[.bool sv,.string (bs sw),.string (bs cm),.slice A0 n0 c0,.slice A1 n1 c1,.slice A2 n2 c2,.slice A3 n3 c3,.slice A4 n4 c4,.slice A5 n5 c5,.slice A6 n6 c6,.slice A7 n7 c7,.slice A8 al.length c8,.int .i64 own,.slice A9 gr.length c9,.int .i64 lim,.int .i64 peer,.string (bs us),.slice A10 ky.length c10,.bool ex,.bool ge,.int .u32 q0,.int .u32 q1,.int .u32 q2]] w (fun e w'=>e=.returned (.slice (some ⟨w.heap.size+1,0,none⟩) 2 2)∧Below w.heap.size w w'∧Blk w' w.heap.size 30 #[.bool sv,.string (bs sw),.string (bs cm),.slice A0 n0 c0,.slice A1 n1 c1,.slice A2 n2 c2,.slice A3 n3 c3,.slice A4 n4 c4,.slice A5 n5 c5,.slice A6 n6 c6,.slice A7 n7 c7,.slice A8 al.length c8,.int .i64 own,.slice A9 gr.length c9,.int .i64 lim,.int .i64 peer,.string (bs us),.slice A10 ky.length c10,.bool ex,.bool ge,.int .u32 q0,.int .u32 q1,.int .u32 q2]∧Blk w' (w.heap.size+1) 224 #[.func (.func 215) #[] #[.pointer (some ⟨w.heap.size,0,none⟩)],.func (.func 217) #[] #[.pointer (some ⟨w.heap.size,0,none⟩)]]):=by
 obtain ⟨W,hW⟩:∃W,W=(w.alloc (.cells #[.bool sv,.string (bs sw),.string (bs cm),.slice A0 n0 c0,.slice A1 n1 c1,.slice A2 n2 c2,.slice A3 n3 c3,.slice A4 n4 c4,.slice A5 n5 c5,.slice A6 n6 c6,.slice A7 n7 c7,.slice A8 al.length c8,.int .i64 own,.slice A9 gr.length c9,.int .i64 lim,.int .i64 peer,.string (bs us),.slice A10 ky.length c10,.bool ex,.bool ge,.int .u32 q0,.int .u32 q1,.int .u32 q2] 30)).alloc (.cells #[.func (.func 215) #[] #[.pointer (some ⟨w.heap.size,0,none⟩)],.func (.func 217) #[] #[.pointer (some ⟨w.heap.size,0,none⟩)]] 224):=⟨_,rfl⟩
 have hb:Below w.heap.size w W:=by rw [hW];exact bel_by
 have hX:Blk W w.heap.size 30 #[.bool sv,.string (bs sw),.string (bs cm),.slice A0 n0 c0,.slice A1 n1 c1,.slice A2 n2 c2,.slice A3 n3 c3,.slice A4 n4 c4,.slice A5 n5 c5,.slice A6 n6 c6,.slice A7 n7 c7,.slice A8 al.length c8,.int .i64 own,.slice A9 gr.length c9,.int .i64 lim,.int .i64 peer,.string (bs us),.slice A10 ky.length c10,.bool ex,.bool ge,.int .u32 q0,.int .u32 q1,.int .u32 q2]:=by rw [hW];exact (Blk.new w _ _).alloc _
 have hF:Blk W (w.heap.size+1) 224 #[.func (.func 215) #[] #[.pointer (some ⟨w.heap.size,0,none⟩)],.func (.func 217) #[] #[.pointer (some ⟨w.heap.size,0,none⟩)]]:=by rw [hW];exact blk_new2 w _ _ _
 go_enter Tryz.func139,Tryz.ntmps139
 go_wp2_with fail
 rw [←hW]
 go_ret
 exact ⟨rfl,hb,hX,hF⟩
theorem client_any {sv ex ge:Bool} {sw cm us:List UInt8} {A0 A1 A2 A3 A4 A5 A6 A7 A8 A9 A10:Option Addr} {n0 n1 n2 n3 n4 n5 n6 n7 c0 c1 c2 c3 c4 c5 c6 c7 c8 c9 c10:Nat} {al:List (List UInt8)} {own lim peer q0 q1 q2:Int} {gr:List (List UInt8 × Int)} {ky:List Int} (w:World):Calls Tryz.prog 140 #[.agg #[.bool sv,.string (bs sw),.string (bs cm),.slice A0 n0 c0,.slice A1 n1 c1,.slice A2 n2 c2,.slice A3 n3 c3,.slice A4 n4 c4,.slice A5 n5 c5,.slice A6 n6 c6,.slice A7 n7 c7,.slice A8 al.length c8,.int .i64 own,.slice A9 gr.length c9,.int .i64 lim,.int .i64 peer,.string (bs us),.slice A10 ky.length c10,.bool ex,.bool ge,.int .u32 q0,.int .u32 q1,.int .u32 q2]] w (fun e w'=>e=.returned (.slice (some ⟨w.heap.size+1,0,none⟩) 5 5)∧Below w.heap.size w w'∧Blk w' w.heap.size 30 #[.bool sv,.string (bs sw),.string (bs cm),.slice A0 n0 c0,.slice A1 n1 c1,.slice A2 n2 c2,.slice A3 n3 c3,.slice A4 n4 c4,.slice A5 n5 c5,.slice A6 n6 c6,.slice A7 n7 c7,.slice A8 al.length c8,.int .i64 own,.slice A9 gr.length c9,.int .i64 lim,.int .i64 peer,.string (bs us),.slice A10 ky.length c10,.bool ex,.bool ge,.int .u32 q0,.int .u32 q1,.int .u32 q2]∧Blk w' (w.heap.size+1) 224 #[.func (.func 218) #[] #[.pointer (some ⟨w.heap.size,0,none⟩)],.func (.func 219) #[] #[.pointer (some ⟨w.heap.size,0,none⟩)],.func (.func 221) #[] #[.pointer (some ⟨w.heap.size,0,none⟩)],.func (.func 223) #[] #[.pointer (some ⟨w.heap.size,0,none⟩)],.func (.func 224) #[] #[.pointer (some ⟨w.heap.size,0,none⟩)]]):=by
 obtain ⟨W,hW⟩:∃W,W=(w.alloc (.cells #[.bool sv,.string (bs sw),.string (bs cm),.slice A0 n0 c0,.slice A1 n1 c1,.slice A2 n2 c2,.slice A3 n3 c3,.slice A4 n4 c4,.slice A5 n5 c5,.slice A6 n6 c6,.slice A7 n7 c7,.slice A8 al.length c8,.int .i64 own,.slice A9 gr.length c9,.int .i64 lim,.int .i64 peer,.string (bs us),.slice A10 ky.length c10,.bool ex,.bool ge,.int .u32 q0,.int .u32 q1,.int .u32 q2] 30)).alloc (.cells #[.func (.func 218) #[] #[.pointer (some ⟨w.heap.size,0,none⟩)],.func (.func 219) #[] #[.pointer (some ⟨w.heap.size,0,none⟩)],.func (.func 221) #[] #[.pointer (some ⟨w.heap.size,0,none⟩)],.func (.func 223) #[] #[.pointer (some ⟨w.heap.size,0,none⟩)],.func (.func 224) #[] #[.pointer (some ⟨w.heap.size,0,none⟩)]] 224):=⟨_,rfl⟩
 have hb:Below w.heap.size w W:=by rw [hW];exact bel_by
 have hX:Blk W w.heap.size 30 #[.bool sv,.string (bs sw),.string (bs cm),.slice A0 n0 c0,.slice A1 n1 c1,.slice A2 n2 c2,.slice A3 n3 c3,.slice A4 n4 c4,.slice A5 n5 c5,.slice A6 n6 c6,.slice A7 n7 c7,.slice A8 al.length c8,.int .i64 own,.slice A9 gr.length c9,.int .i64 lim,.int .i64 peer,.string (bs us),.slice A10 ky.length c10,.bool ex,.bool ge,.int .u32 q0,.int .u32 q1,.int .u32 q2]:=by rw [hW];exact (Blk.new w _ _).alloc _
 have hF:Blk W (w.heap.size+1) 224 #[.func (.func 218) #[] #[.pointer (some ⟨w.heap.size,0,none⟩)],.func (.func 219) #[] #[.pointer (some ⟨w.heap.size,0,none⟩)],.func (.func 221) #[] #[.pointer (some ⟨w.heap.size,0,none⟩)],.func (.func 223) #[] #[.pointer (some ⟨w.heap.size,0,none⟩)],.func (.func 224) #[] #[.pointer (some ⟨w.heap.size,0,none⟩)]]:=by rw [hW];exact blk_new2 w _ _ _
 go_enter Tryz.func140,Tryz.ntmps140
 go_wp2_with fail
 rw [←hW]
 go_ret
 exact ⟨rfl,hb,hX,hF⟩
end
theorem infoCk:(Tryz.prog.info? 224).map (fun i=>(i.zero,i.size,i.bytes))=some (some .nilFunc,1,8):=by kernel_rfl
structure RowF (w8:World) (b1 b2:Nat) (cv:Array Value) (ad:Addr) (fs:List Value) (W:World):Prop where
 bel:Below w8.heap.size w8 W
 x1:Blk W b1 30 cv
 x2:Blk W b2 30 cv
 lt:ad.block<W.heap.size
 at_:∀(k:Nat) u,fs[k]?=some u→W.cell? (ad.add k)=some u
theorem RowF.below {w8:World} {b1 b2:Nat} {cv:Array Value} {ad:Addr} {fs:List Value} {W W':World} (h:RowF w8 b1 b2 cv ad fs W) (hb:Below W.heap.size W W'):RowF w8 b1 b2 cv ad fs W' :=
 ⟨h.bel.trans (hb.mono h.bel.size),h.x1.below hb h.x1.lt,h.x2.below hb h.x2.lt,Nat.lt_of_lt_of_le h.lt hb.size,fun k u hu=>(hb.cell (p:=ad.add k) (by rw [block_of_add];exact h.lt)).trans (h.at_ k u hu)⟩
theorem or_opt {α:Type} (o:Option α):o=none∨∃x,o=some x:=by
 cases o with
 | none=>exact .inl rfl
 | some x=>exact .inr ⟨x,rfl⟩
theorem fst_next {l:List ErrO} {k:Nat} {e:ErrO} (H:fstE l=fstE (l.drop k)) (hk:l[k]?=some e) (he:e=none):fstE l=fstE (l.drop (k+1)):=by
 rw [H]
 obtain ⟨hl,h⟩:=List.getElem?_eq_some_iff.1 hk
 rw [List.drop_eq_getElem_cons hl,h,he]
 rfl
theorem fst_some {l:List ErrO} {k:Nat} {e:ErrO} {ps:List (List UInt8)} {kk:Int} (H:fstE l=fstE (l.drop k)) (hk:l[k]?=some e) (he:e=some (ps,kk)):inC (fstE l)=some ([99,111,110,102] :: ps,kk):=by
 rw [H]
 obtain ⟨hl,h⟩:=List.getElem?_eq_some_iff.1 hk
 rw [List.drop_eq_getElem_cons hl,h,he]
 rfl
theorem cell_addS {w:World} {ad:Addr} {k:Nat} {x:Option Value} (h:w.cell? (ad.add (k+1))=x):w.cell? ⟨ad.block,ad.off+(k+1),none⟩=x:=by
 rw [←show ad.add (k+1)=⟨ad.block,ad.off+(k+1),none⟩ from by simp [Addr.add]]
 exact h
theorem ck_z {p:Prop} (h:p:=by
  rcases HO with he | ⟨⟨ps,kk⟩,he⟩
  ·have H2:=hide (fst_next H.out hke he)
   rw [he] at HK
   have HK2:=hide (errR_none HK.out)
   clear H HK he hke
   go_wp2_with ((first | go_at_call 210 | go_at_call 213 | go_at_call 215 | go_at_call 217 | go_at_call 218 | go_at_call 219 | go_at_call 221 | go_at_call 223 | go_at_call 224);refine HK2.out.mono ?_;rintro e w3 ⟨rfl,hb3⟩)
   have HB3:=hide (HB.out.below hb3)
   go_roundw
   case rel=>exact ⟨⟨_,by decide,by go_num,H2⟩,HB3⟩
   case measure=>simp [intOf]
  ·have E:=hide (fst_some H.out hke he)
   rw [he] at HK
   have HK2:=hide (errR_some HK.out)
   unfold errV at HK2
   clear H HK he hke
   go_wp2_with (first | ((first | go_at_call 210 | go_at_call 213 | go_at_call 215 | go_at_call 217 | go_at_call 218 | go_at_call 219 | go_at_call 221 | go_at_call 223 | go_at_call 224);refine HK2.out.mono ?_;rintro e w3 ⟨b,rfl,hi,hb3⟩;have HT2:=hide (HT.out _ ⟨#[99,111,110,102]⟩ b _ _ hi);unfold errV at HT2) | (go_at_call 47;refine HT2.out.mono ?_;rintro e w5 ⟨b2,rfl,hi2,hb5⟩))
   go_ret
   have hb35:=hb3.trans (hb5.mono hb3.size)
   exact errR_s E.out (HBW.out.trans (hb35.mono HBW.out.size)) rfl hi2):p:=h
section
variable {w : World}
theorem wpList_load_confA {ops:Array Oper} {rest:List Oper} {op:Oper} {a:Act} {Q:Exit→Act→World→Prop} (hgd:op.guard=none) (x:Operand) (ho:op.op=.load 30 x) {b:Nat} (hx:a.eval x=.pointer (some ⟨b,0,none⟩)) {cv:Array Value} (hX:Blk w b 30 cv) (hl:cv.toList.length=23)
  (h:wpList Tryz.prog ops Q rest (a.put op.dst (.agg cv)) w):wpList Tryz.prog ops Q (op :: rest) a w :=
 wpList_load_conf (cs:=cv.toList) hgd x ho hx (by rw [Array.toArray_toList];exact hX) hl (by rw [Array.toArray_toList];exact h)
theorem check_s {ex ge:Bool} {sw cm us:List UInt8} {A0 A1 A2 A3 A4 A5 A6 A7 A8 A9 A10:Option Addr} {n0 n1 n2 n3 n4 n5 n6 n7 c0 c1 c2 c3 c4 c5 c6 c7 c8 c9 c10:Nat} {al:List (List UInt8)} {own lim peer q0 q1 q2:Int} {gr:List (List UInt8 × Int)} {ky:List Int} {ls:List (List (List UInt8))} (hM:MethV w) (hW:WordV w) (hC:CfM w sw cm us [.slice A0 n0 c0,.slice A1 n1 c1,.slice A2 n2 c2,.slice A3 n3 c3,.slice A4 n4 c4,.slice A5 n5 c5,.slice A6 n6 c6,.slice A7 n7 c7] ls A8 c8 al A9 gr A10 ky) :
  Calls Tryz.prog 81 #[.agg #[.bool true,.string (bs sw),.string (bs cm),.slice A0 n0 c0,.slice A1 n1 c1,.slice A2 n2 c2,.slice A3 n3 c3,.slice A4 n4 c4,.slice A5 n5 c5,.slice A6 n6 c6,.slice A7 n7 c7,.slice A8 al.length c8,.int .i64 own,.slice A9 gr.length c9,.int .i64 lim,.int .i64 peer,.string (bs us),.slice A10 ky.length c10,.bool ex,.bool ge,.int .u32 q0,.int .u32 q1,.int .u32 q2]] w (ErrR (inC (fstE [unl (verL sw cm != []) [118,101,114,115,105,111,110] 1,prR (prW ls),unl (princL own) [111,119,110] 5,denyR (denyE gr al lim)])) w):=by
 obtain ⟨cv,hcv⟩:∃cv:Array Value,cv=#[.bool true,.string (bs sw),.string (bs cm),.slice A0 n0 c0,.slice A1 n1 c1,.slice A2 n2 c2,.slice A3 n3 c3,.slice A4 n4 c4,.slice A5 n5 c5,.slice A6 n6 c6,.slice A7 n7 c7,.slice A8 al.length c8,.int .i64 own,.slice A9 gr.length c9,.int .i64 lim,.int .i64 peer,.string (bs us),.slice A10 ky.length c10,.bool ex,.bool ge,.int .u32 q0,.int .u32 q1,.int .u32 q2]:=⟨_,rfl⟩
 rw [←hcv]
 obtain ⟨W0,hW0⟩:∃W0,W0=w.alloc (.cells cv 30):=⟨_,rfl⟩
 have hb0:Below w.heap.size w W0:=by rw [hW0];exact bel_by
 have hX0:Blk W0 w.heap.size 30 cv:=by rw [hW0];exact Blk.new w _ _
 have K0:=hide (fun (W:World) (b:Nat) (h:Blk W b 30 cv) (hb:Below w.heap.size w W)=>show Calls Tryz.prog 210 #[.pointer (some ⟨b,0,none⟩)] W (ErrR (unl (verL sw cm != []) [118,101,114,115,105,111,110] 1) W) from by rw [hcv] at h;exact cb1_any h hC.hsw hC.hcm)
 have K1:=hide (fun (W:World) (b:Nat) (h:Blk W b 30 cv) (hb:Below w.heap.size w W)=>show Calls Tryz.prog 213 #[.pointer (some ⟨b,0,none⟩)] W (ErrR (prR (prW ls)) W) from by rw [hcv] at h;exact cb2_any h (hM.below hb) (hW.below hb) (hC.hl8.below hb))
 have K2:=hide (fun (W:World) (b:Nat) (h:Blk W b 30 cv) (hb:Below w.heap.size w W)=>show Calls Tryz.prog 215 #[.pointer (some ⟨b,0,none⟩)] W (ErrR (unl (princL own) [111,119,110] 5) W) from by rw [hcv] at h;exact cs1_any h)
 have K3:=hide (fun (W:World) (b:Nat) (h:Blk W b 30 cv) (hb:Below w.heap.size w W)=>show Calls Tryz.prog 217 #[.pointer (some ⟨b,0,none⟩)] W (ErrR (denyR (denyE gr al lim)) W) from by rw [hcv] at h;exact cs2_any h (hC.below hb))
 obtain ⟨e0,he0⟩:∃x,x=unl (verL sw cm != []) [118,101,114,115,105,111,110] 1:=⟨_,rfl⟩
 rw [←he0] at K0
 obtain ⟨e1,he1⟩:∃x,x=prR (prW ls):=⟨_,rfl⟩
 rw [←he1] at K1
 obtain ⟨e2,he2⟩:∃x,x=unl (princL own) [111,119,110] 5:=⟨_,rfl⟩
 rw [←he2] at K2
 obtain ⟨e3,he3⟩:∃x,x=denyR (denyE gr al lim):=⟨_,rfl⟩
 rw [←he3] at K3
 rw [←he0,← he1,← he2,← he3]
 clear he0 he1 he2 he3
 have HBo:=hide (fun (W:World)=>show Calls Tryz.prog 138 #[.agg cv] W (fun e w'=>e=.returned (.slice (some ⟨W.heap.size+1,0,none⟩) 2 2)∧Below W.heap.size W w'∧Blk w' W.heap.size 30 cv∧Blk w' (W.heap.size+1) 224 #[.func (.func 210) #[] #[.pointer (some ⟨W.heap.size,0,none⟩)],.func (.func 213) #[] #[.pointer (some ⟨W.heap.size,0,none⟩)]]) from by rw [hcv];exact both_any W)
 have HSe:=hide (fun (W:World)=>show Calls Tryz.prog 139 #[.agg cv] W (fun e w'=>e=.returned (.slice (some ⟨W.heap.size+1,0,none⟩) 2 2)∧Below W.heap.size W w'∧Blk w' W.heap.size 30 cv∧Blk w' (W.heap.size+1) 224 #[.func (.func 215) #[] #[.pointer (some ⟨W.heap.size,0,none⟩)],.func (.func 217) #[] #[.pointer (some ⟨W.heap.size,0,none⟩)]]) from by rw [hcv];exact server_any W)
 have HX:=hide (And.intro hb0 hX0)
 have hlt0:=hX0.lt
 have z0:=hX0.cell 0
 rw [hcv] at z0
 simp only [List.getElem?_toArray,List.getElem?_cons_zero] at z0
 have HT:=hide (fun (W:World) (s:ByteArray) (b:Nat) (ps:List (List UInt8)) (k:Int) (h:IsErr W (errV b) ps k)=>fat_any s b h)
 obtain ⟨iC,hiC,hC0,hC1,hC2⟩:=info_partsN infoCk
 clear hM hW hC hb0
 have hcl:cv.toList.length=23:=by rw [hcv];rfl
 clear hcv
 go_enter Tryz.func81,Tryz.ntmps81
 go_upto_region 1 with fail
 rw [←hW0]
 clear hW0
 refine wp_region_lit ?_
 refine wpList_load_confA rfl (.tmp 1) rfl (by rfl) HX.out.2 hcl ?_
 go_upto_region 3 with (first | (go_at_call 138;refine (HBo.out _).mono ?_;rintro e w1 ⟨rfl,hb1,hX1,hF1⟩;have z1:=(hb1.cell (p:=⟨w.heap.size,0,none⟩) hlt0).trans z0) | fail)
 have hsz0:=HX.out.1.size
 have hown1:=own_blkC (b:=w.heap.size) (n:=2) hF1 (by omega) rfl (by unfold maxLen;omega)
 have hX01:=HX.out.2.below hb1 hlt0
 have hlt1:=hX1.lt
 refine wp_region_lit ?_
 refine wpList_move_ rfl (.tmp 3) rfl ?_
 refine wpList_load_confA rfl (.tmp 1) rfl (by rfl) hX01 hcl ?_
 go_wp2_with (first | (go_at_call 139;refine (HSe.out _).mono ?_;rintro e w2 ⟨rfl,hb2,hX2,hF2⟩;rename_i hKK;have hown2:=own_belowN hown1 hb2;have hX12:=hX1.below hb2 hX1.lt;have hsz2:=hb2.size;dsimp only;refine hKK _ _ ?_;refine wpList_append_any _ rfl (.tmp 11) (.tmp 13) _ rfl w.heap.size 224 iC .nilFunc 1 8 Tryz.underlying221 hiC hC0 hC1 hC2 rfl (by decide) (.slice (some ⟨W0.heap.size+1,0,none⟩) 2 2) 2 _ rfl hown2 _ (some ⟨w1.heap.size+1,0,none⟩) 2 2 [.func (.func 215) #[] #[.pointer (some ⟨w1.heap.size,0,none⟩)],.func (.func 217) #[] #[.pointer (some ⟨w1.heap.size,0,none⟩)]] rfl (reads_blkN hF2 rfl) (by simp [Value.oneCell']) (by unfold maxLen;omega) (by omega) (by omega) ?_;intro v8 w8 hown8 hgr8 hor8;obtain ⟨A8',c8',rfl⟩:=own_slN hown8;simp only [Nat.reduceAdd] at hown8 hgr8 hor8 ⊢) | fail)
 obtain ⟨_,hR8⟩:=Reads.of_own hown8
 obtain ⟨ad,hAd,hlt8,hat8⟩:=hR8 (by decide)
 subst hAd
 have hgr9:w2.grownBy w8 (some (W0.heap.size+1)):=hgr8
 have hf1:=hF1.lt
 have hX12:=hX1.below hb2 hlt1
 have hl12:=hX12.lt
 have hl2:=hX2.lt
 have HB8:=hide (show Below w.heap.size w w8 from ((HX.out.1.trans (hb1.mono hsz0)).trans (hb2.mono (by omega))).grown hgr9 (by omega) (fun b hb=>by
  have:=Option.some.inj hb
  omega))
 have HR8:=hide (show RowF w8 W0.heap.size w1.heap.size cv ad [.func (.func 210) #[] #[.pointer (some ⟨W0.heap.size,0,none⟩)],.func (.func 213) #[] #[.pointer (some ⟨W0.heap.size,0,none⟩)],.func (.func 215) #[] #[.pointer (some ⟨w1.heap.size,0,none⟩)],.func (.func 217) #[] #[.pointer (some ⟨w1.heap.size,0,none⟩)]] w8 from ⟨Below.refl _ _,hX12.grown hgr9 (fun e=>by have:=Option.some.inj e;omega),hX2.grown hgr9 (fun e=>by have:=Option.some.inj e;omega),hlt8,fun k u hu=>hat8 k u hu⟩)
 generalize W0.heap.size=b1 at HR8
 generalize w1.heap.size=b2 at HR8
 clear hown8 hgr8 hor8 hR8 hlt8 hat8 hf1 hgr9 hl12 hl2 hX12 hX1 hF1 hX2 hF2 hb1 hb2 hX0 hX01 hown1 z0 z1 HBo HSe HX hlt0 hlt1 hsz0 hsz2
 go_loopw [21] (fun i wr=>(∃k:Nat,k≤4∧i=.int .i64 k∧Hid (fstE [e0,e1,e2,e3]=fstE ([e0,e1,e2,e3].drop k)))∧Hid (RowF w8 b1 b2 cv ad [.func (.func 210) #[] #[.pointer (some ⟨b1,0,none⟩)],.func (.func 213) #[] #[.pointer (some ⟨b1,0,none⟩)],.func (.func 215) #[] #[.pointer (some ⟨b2,0,none⟩)],.func (.func 217) #[] #[.pointer (some ⟨b2,0,none⟩)]] wr)) (fun i _=>4 - (intOf i).toNat)
 case atStart=>exact ⟨⟨0,Nat.zero_le _,rfl,hide rfl⟩,HR8⟩
 case round =>
  obtain ⟨⟨k,hk,rfl,H⟩,HB⟩:=hrel
  have HBW:=hide (HB8.out.trans (HB.out.bel.mono HB8.out.size))
  match k,hk with
  | 0,_ =>
   have hc:=HB.out.at_ 0 _ rfl
   have hc2:=hc
   rw [add_nil_] at hc2
   have HK:=hide (K0.out wr _ HB.out.x1 HBW.out)
   have HO:=or_opt e0
   have hke:([e0,e1,e2,e3]:List ErrO)[0]?=some e0:=rfl
   exact ck_z
  | 1,_ =>
   have hc:=HB.out.at_ 1 _ rfl
   have hc2:wr.cell? ⟨ad.block,ad.off+1,none⟩=some _:=cell_addS hc
   have HK:=hide (K1.out wr _ HB.out.x1 HBW.out)
   have HO:=or_opt e1
   have hke:([e0,e1,e2,e3]:List ErrO)[1]?=some e1:=rfl
   exact ck_z
  | 2,_ =>
   have hc:=HB.out.at_ 2 _ rfl
   have hc2:wr.cell? ⟨ad.block,ad.off+2,none⟩=some _:=cell_addS hc
   have HK:=hide (K2.out wr _ HB.out.x2 HBW.out)
   have HO:=or_opt e2
   have hke:([e0,e1,e2,e3]:List ErrO)[2]?=some e2:=rfl
   exact ck_z
  | 3,_ =>
   have hc:=HB.out.at_ 3 _ rfl
   have hc2:wr.cell? ⟨ad.block,ad.off+3,none⟩=some _:=cell_addS hc
   have HK:=hide (K3.out wr _ HB.out.x2 HBW.out)
   have HO:=or_opt e3
   have hke:([e0,e1,e2,e3]:List ErrO)[3]?=some e3:=rfl
   exact ck_z
  | 4,_ =>
   have E:=hide (show inC (fstE [e0,e1,e2,e3])=none from by rw [H.out];rfl)
   clear H
   go_wp2_with fail
   go_ret
   exact errR_n E.out HBW.out rfl
theorem check_c {ex ge:Bool} {sw cm us:List UInt8} {A0 A1 A2 A3 A4 A5 A6 A7 A8 A9 A10:Option Addr} {n0 n1 n2 n3 n4 n5 n6 n7 c0 c1 c2 c3 c4 c5 c6 c7 c8 c9 c10:Nat} {al:List (List UInt8)} {own lim peer q0 q1 q2:Int} {gr:List (List UInt8 × Int)} {ky:List Int} {ls:List (List (List UInt8))} (hM:MethV w) (hW:WordV w) (hC:CfM w sw cm us [.slice A0 n0 c0,.slice A1 n1 c1,.slice A2 n2 c2,.slice A3 n3 c3,.slice A4 n4 c4,.slice A5 n5 c5,.slice A6 n6 c6,.slice A7 n7 c7] ls A8 c8 al A9 gr A10 ky) :
  Calls Tryz.prog 81 #[.agg #[.bool false,.string (bs sw),.string (bs cm),.slice A0 n0 c0,.slice A1 n1 c1,.slice A2 n2 c2,.slice A3 n3 c3,.slice A4 n4 c4,.slice A5 n5 c5,.slice A6 n6 c6,.slice A7 n7 c7,.slice A8 al.length c8,.int .i64 own,.slice A9 gr.length c9,.int .i64 lim,.int .i64 peer,.string (bs us),.slice A10 ky.length c10,.bool ex,.bool ge,.int .u32 q0,.int .u32 q1,.int .u32 q2]] w (ErrR (inC (fstE [unl (verL sw cm != []) [118,101,114,115,105,111,110] 1,prR (prW ls),unl (princL peer) [112,101,101,114] 5,unl (userL us) [117,115,101,114] 3,keyE ky,denyR (denyE [] al 1),unl (groupL q0 q1 q2) [119,105,115,104] 5])) w):=by
 obtain ⟨cv,hcv⟩:∃cv:Array Value,cv=#[.bool false,.string (bs sw),.string (bs cm),.slice A0 n0 c0,.slice A1 n1 c1,.slice A2 n2 c2,.slice A3 n3 c3,.slice A4 n4 c4,.slice A5 n5 c5,.slice A6 n6 c6,.slice A7 n7 c7,.slice A8 al.length c8,.int .i64 own,.slice A9 gr.length c9,.int .i64 lim,.int .i64 peer,.string (bs us),.slice A10 ky.length c10,.bool ex,.bool ge,.int .u32 q0,.int .u32 q1,.int .u32 q2]:=⟨_,rfl⟩
 rw [←hcv]
 obtain ⟨W0,hW0⟩:∃W0,W0=w.alloc (.cells cv 30):=⟨_,rfl⟩
 have hb0:Below w.heap.size w W0:=by rw [hW0];exact bel_by
 have hX0:Blk W0 w.heap.size 30 cv:=by rw [hW0];exact Blk.new w _ _
 have K0:=hide (fun (W:World) (b:Nat) (h:Blk W b 30 cv) (hb:Below w.heap.size w W)=>show Calls Tryz.prog 210 #[.pointer (some ⟨b,0,none⟩)] W (ErrR (unl (verL sw cm != []) [118,101,114,115,105,111,110] 1) W) from by rw [hcv] at h;exact cb1_any h hC.hsw hC.hcm)
 have K1:=hide (fun (W:World) (b:Nat) (h:Blk W b 30 cv) (hb:Below w.heap.size w W)=>show Calls Tryz.prog 213 #[.pointer (some ⟨b,0,none⟩)] W (ErrR (prR (prW ls)) W) from by rw [hcv] at h;exact cb2_any h (hM.below hb) (hW.below hb) (hC.hl8.below hb))
 have K2:=hide (fun (W:World) (b:Nat) (h:Blk W b 30 cv) (hb:Below w.heap.size w W)=>show Calls Tryz.prog 218 #[.pointer (some ⟨b,0,none⟩)] W (ErrR (unl (princL peer) [112,101,101,114] 5) W) from by rw [hcv] at h;exact cc1_any h)
 have K3:=hide (fun (W:World) (b:Nat) (h:Blk W b 30 cv) (hb:Below w.heap.size w W)=>show Calls Tryz.prog 219 #[.pointer (some ⟨b,0,none⟩)] W (ErrR (unl (userL us) [117,115,101,114] 3) W) from by rw [hcv] at h;exact cc2_any h hC.hus)
 have K4:=hide (fun (W:World) (b:Nat) (h:Blk W b 30 cv) (hb:Below w.heap.size w W)=>show Calls Tryz.prog 221 #[.pointer (some ⟨b,0,none⟩)] W (ErrR (keyE ky) W) from by rw [hcv] at h;exact cc3_any h (hC.below hb))
 have K5:=hide (fun (W:World) (b:Nat) (h:Blk W b 30 cv) (hb:Below w.heap.size w W)=>show Calls Tryz.prog 223 #[.pointer (some ⟨b,0,none⟩)] W (ErrR (denyR (denyE [] al 1)) W) from by rw [hcv] at h;exact cc4_any h (hC.below hb))
 have K6:=hide (fun (W:World) (b:Nat) (h:Blk W b 30 cv) (hb:Below w.heap.size w W)=>show Calls Tryz.prog 224 #[.pointer (some ⟨b,0,none⟩)] W (ErrR (unl (groupL q0 q1 q2) [119,105,115,104] 5) W) from by rw [hcv] at h;exact cc5_any h)
 obtain ⟨e0,he0⟩:∃x,x=unl (verL sw cm != []) [118,101,114,115,105,111,110] 1:=⟨_,rfl⟩
 rw [←he0] at K0
 obtain ⟨e1,he1⟩:∃x,x=prR (prW ls):=⟨_,rfl⟩
 rw [←he1] at K1
 obtain ⟨e2,he2⟩:∃x,x=unl (princL peer) [112,101,101,114] 5:=⟨_,rfl⟩
 rw [←he2] at K2
 obtain ⟨e3,he3⟩:∃x,x=unl (userL us) [117,115,101,114] 3:=⟨_,rfl⟩
 rw [←he3] at K3
 obtain ⟨e4,he4⟩:∃x,x=keyE ky:=⟨_,rfl⟩
 rw [←he4] at K4
 obtain ⟨e5,he5⟩:∃x,x=denyR (denyE [] al 1):=⟨_,rfl⟩
 rw [←he5] at K5
 obtain ⟨e6,he6⟩:∃x,x=unl (groupL q0 q1 q2) [119,105,115,104] 5:=⟨_,rfl⟩
 rw [←he6] at K6
 rw [←he0,← he1,← he2,← he3,← he4,← he5,← he6]
 clear he0 he1 he2 he3 he4 he5 he6
 have HBo:=hide (fun (W:World)=>show Calls Tryz.prog 138 #[.agg cv] W (fun e w'=>e=.returned (.slice (some ⟨W.heap.size+1,0,none⟩) 2 2)∧Below W.heap.size W w'∧Blk w' W.heap.size 30 cv∧Blk w' (W.heap.size+1) 224 #[.func (.func 210) #[] #[.pointer (some ⟨W.heap.size,0,none⟩)],.func (.func 213) #[] #[.pointer (some ⟨W.heap.size,0,none⟩)]]) from by rw [hcv];exact both_any W)
 have HSe:=hide (fun (W:World)=>show Calls Tryz.prog 140 #[.agg cv] W (fun e w'=>e=.returned (.slice (some ⟨W.heap.size+1,0,none⟩) 5 5)∧Below W.heap.size W w'∧Blk w' W.heap.size 30 cv∧Blk w' (W.heap.size+1) 224 #[.func (.func 218) #[] #[.pointer (some ⟨W.heap.size,0,none⟩)],.func (.func 219) #[] #[.pointer (some ⟨W.heap.size,0,none⟩)],.func (.func 221) #[] #[.pointer (some ⟨W.heap.size,0,none⟩)],.func (.func 223) #[] #[.pointer (some ⟨W.heap.size,0,none⟩)],.func (.func 224) #[] #[.pointer (some ⟨W.heap.size,0,none⟩)]]) from by rw [hcv];exact client_any W)
 have HX:=hide (And.intro hb0 hX0)
 have hlt0:=hX0.lt
 have z0:=hX0.cell 0
 rw [hcv] at z0
 simp only [List.getElem?_toArray,List.getElem?_cons_zero] at z0
 have HT:=hide (fun (W:World) (s:ByteArray) (b:Nat) (ps:List (List UInt8)) (k:Int) (h:IsErr W (errV b) ps k)=>fat_any s b h)
 obtain ⟨iC,hiC,hC0,hC1,hC2⟩:=info_partsN infoCk
 clear hM hW hC hb0
 have hcl:cv.toList.length=23:=by rw [hcv];rfl
 clear hcv
 go_enter Tryz.func81,Tryz.ntmps81
 go_upto_region 1 with fail
 rw [←hW0]
 clear hW0
 refine wp_region_lit ?_
 refine wpList_load_confA rfl (.tmp 1) rfl (by rfl) HX.out.2 hcl ?_
 go_upto_region 4 with (first | (go_at_call 138;refine (HBo.out _).mono ?_;rintro e w1 ⟨rfl,hb1,hX1,hF1⟩;have z1:=(hb1.cell (p:=⟨w.heap.size,0,none⟩) hlt0).trans z0) | fail)
 have hsz0:=HX.out.1.size
 have hown1:=own_blkC (b:=w.heap.size) (n:=2) hF1 (by omega) rfl (by unfold maxLen;omega)
 have hX01:=HX.out.2.below hb1 hlt0
 have hlt1:=hX1.lt
 refine wp_region_lit ?_
 refine wpList_move_ rfl (.tmp 3) rfl ?_
 refine wpList_load_confA rfl (.tmp 1) rfl (by rfl) hX01 hcl ?_
 go_wp2_with (first | (go_at_call 140;refine (HSe.out _).mono ?_;rintro e w2 ⟨rfl,hb2,hX2,hF2⟩;rename_i hKK;have hown2:=own_belowN hown1 hb2;have hX12:=hX1.below hb2 hX1.lt;have hsz2:=hb2.size;dsimp only;refine hKK _ _ ?_;refine wpList_append_any _ rfl (.tmp 15) (.tmp 17) _ rfl w.heap.size 224 iC .nilFunc 1 8 Tryz.underlying221 hiC hC0 hC1 hC2 rfl (by decide) (.slice (some ⟨W0.heap.size+1,0,none⟩) 2 2) 2 _ rfl hown2 _ (some ⟨w1.heap.size+1,0,none⟩) 5 5 [.func (.func 218) #[] #[.pointer (some ⟨w1.heap.size,0,none⟩)],.func (.func 219) #[] #[.pointer (some ⟨w1.heap.size,0,none⟩)],.func (.func 221) #[] #[.pointer (some ⟨w1.heap.size,0,none⟩)],.func (.func 223) #[] #[.pointer (some ⟨w1.heap.size,0,none⟩)],.func (.func 224) #[] #[.pointer (some ⟨w1.heap.size,0,none⟩)]] rfl (reads_blkN hF2 rfl) (by simp [Value.oneCell']) (by unfold maxLen;omega) (by omega) (by omega) ?_;intro v8 w8 hown8 hgr8 hor8;obtain ⟨A8',c8',rfl⟩:=own_slN hown8;simp only [Nat.reduceAdd] at hown8 hgr8 hor8 ⊢) | fail)
 obtain ⟨_,hR8⟩:=Reads.of_own hown8
 obtain ⟨ad,hAd,hlt8,hat8⟩:=hR8 (by decide)
 subst hAd
 have hgr9:w2.grownBy w8 (some (W0.heap.size+1)):=hgr8
 have hf1:=hF1.lt
 have hX12:=hX1.below hb2 hlt1
 have hl12:=hX12.lt
 have hl2:=hX2.lt
 have HB8:=hide (show Below w.heap.size w w8 from ((HX.out.1.trans (hb1.mono hsz0)).trans (hb2.mono (by omega))).grown hgr9 (by omega) (fun b hb=>by
  have:=Option.some.inj hb
  omega))
 have HR8:=hide (show RowF w8 W0.heap.size w1.heap.size cv ad [.func (.func 210) #[] #[.pointer (some ⟨W0.heap.size,0,none⟩)],.func (.func 213) #[] #[.pointer (some ⟨W0.heap.size,0,none⟩)],.func (.func 218) #[] #[.pointer (some ⟨w1.heap.size,0,none⟩)],.func (.func 219) #[] #[.pointer (some ⟨w1.heap.size,0,none⟩)],.func (.func 221) #[] #[.pointer (some ⟨w1.heap.size,0,none⟩)],.func (.func 223) #[] #[.pointer (some ⟨w1.heap.size,0,none⟩)],.func (.func 224) #[] #[.pointer (some ⟨w1.heap.size,0,none⟩)]] w8 from ⟨Below.refl _ _,hX12.grown hgr9 (fun e=>by have:=Option.some.inj e;omega),hX2.grown hgr9 (fun e=>by have:=Option.some.inj e;omega),hlt8,fun k u hu=>hat8 k u hu⟩)
 generalize W0.heap.size=b1 at HR8
 generalize w1.heap.size=b2 at HR8
 clear hown8 hgr8 hor8 hR8 hlt8 hat8 hf1 hgr9 hl12 hl2 hX12 hX1 hF1 hX2 hF2 hb1 hb2 hX0 hX01 hown1 z0 z1 HBo HSe HX hlt0 hlt1 hsz0 hsz2
 go_loopw [21] (fun i wr=>(∃k:Nat,k≤7∧i=.int .i64 k∧Hid (fstE [e0,e1,e2,e3,e4,e5,e6]=fstE ([e0,e1,e2,e3,e4,e5,e6].drop k)))∧Hid (RowF w8 b1 b2 cv ad [.func (.func 210) #[] #[.pointer (some ⟨b1,0,none⟩)],.func (.func 213) #[] #[.pointer (some ⟨b1,0,none⟩)],.func (.func 218) #[] #[.pointer (some ⟨b2,0,none⟩)],.func (.func 219) #[] #[.pointer (some ⟨b2,0,none⟩)],.func (.func 221) #[] #[.pointer (some ⟨b2,0,none⟩)],.func (.func 223) #[] #[.pointer (some ⟨b2,0,none⟩)],.func (.func 224) #[] #[.pointer (some ⟨b2,0,none⟩)]] wr)) (fun i _=>7 - (intOf i).toNat)
 case atStart=>exact ⟨⟨0,Nat.zero_le _,rfl,hide rfl⟩,HR8⟩
 case round =>
  obtain ⟨⟨k,hk,rfl,H⟩,HB⟩:=hrel
  have HBW:=hide (HB8.out.trans (HB.out.bel.mono HB8.out.size))
  match k,hk with
  | 0,_ =>
   have hc:=HB.out.at_ 0 _ rfl
   have hc2:=hc
   rw [add_nil_] at hc2
   have HK:=hide (K0.out wr _ HB.out.x1 HBW.out)
   have HO:=or_opt e0
   have hke:([e0,e1,e2,e3,e4,e5,e6]:List ErrO)[0]?=some e0:=rfl
   exact ck_z
  | 1,_ =>
   have hc:=HB.out.at_ 1 _ rfl
   have hc2:wr.cell? ⟨ad.block,ad.off+1,none⟩=some _:=cell_addS hc
   have HK:=hide (K1.out wr _ HB.out.x1 HBW.out)
   have HO:=or_opt e1
   have hke:([e0,e1,e2,e3,e4,e5,e6]:List ErrO)[1]?=some e1:=rfl
   exact ck_z
  | 2,_ =>
   have hc:=HB.out.at_ 2 _ rfl
   have hc2:wr.cell? ⟨ad.block,ad.off+2,none⟩=some _:=cell_addS hc
   have HK:=hide (K2.out wr _ HB.out.x2 HBW.out)
   have HO:=or_opt e2
   have hke:([e0,e1,e2,e3,e4,e5,e6]:List ErrO)[2]?=some e2:=rfl
   exact ck_z
  | 3,_ =>
   have hc:=HB.out.at_ 3 _ rfl
   have hc2:wr.cell? ⟨ad.block,ad.off+3,none⟩=some _:=cell_addS hc
   have HK:=hide (K3.out wr _ HB.out.x2 HBW.out)
   have HO:=or_opt e3
   have hke:([e0,e1,e2,e3,e4,e5,e6]:List ErrO)[3]?=some e3:=rfl
   exact ck_z
  | 4,_ =>
   have hc:=HB.out.at_ 4 _ rfl
   have hc2:wr.cell? ⟨ad.block,ad.off+4,none⟩=some _:=cell_addS hc
   have HK:=hide (K4.out wr _ HB.out.x2 HBW.out)
   have HO:=or_opt e4
   have hke:([e0,e1,e2,e3,e4,e5,e6]:List ErrO)[4]?=some e4:=rfl
   exact ck_z
  | 5,_ =>
   have hc:=HB.out.at_ 5 _ rfl
   have hc2:wr.cell? ⟨ad.block,ad.off+5,none⟩=some _:=cell_addS hc
   have HK:=hide (K5.out wr _ HB.out.x2 HBW.out)
   have HO:=or_opt e5
   have hke:([e0,e1,e2,e3,e4,e5,e6]:List ErrO)[5]?=some e5:=rfl
   exact ck_z
  | 6,_ =>
   have hc:=HB.out.at_ 6 _ rfl
   have hc2:wr.cell? ⟨ad.block,ad.off+6,none⟩=some _:=cell_addS hc
   have HK:=hide (K6.out wr _ HB.out.x2 HBW.out)
   have HO:=or_opt e6
   have hke:([e0,e1,e2,e3,e4,e5,e6]:List ErrO)[6]?=some e6:=rfl
   exact ck_z
  | 7,_ =>
   have E:=hide (show inC (fstE [e0,e1,e2,e3,e4,e5,e6])=none from by rw [H.out];rfl)
   clear H
   go_wp2_with fail
   go_ret
   exact errR_n E.out HBW.out rfl
end
end Go.Proofs.YtnhekaepgpbijaaGreatDoor
