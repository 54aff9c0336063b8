/-
  Several of my texts in one: AuS, AuT, AuO, AuE.
-/
import Derived.Test.YtkfnepnghnicoaaGreatDoorKAuRuG
set_option linter.unusedVariables false
set_option linter.unusedSimpArgs false
set_option maxHeartbeats 40000000
set_option maxRecDepth 100000
namespace Go.Proofs.YtkfnepnghnicoaaGreatDoor
open Go.RowKit Go.ChangeShapes Go.WideShapes Go.Sort
theorem refuseA_ev (lim:Int) (s:SvS):(refuseA lim s).2.ev=none:=by unfold refuseA;split <;> rfl
theorem errIs_no {S:Nat→Prop} {w:World} {s1 s2:ByteArray} {k:Int} {v:Value} (h:ErrIs S w s1 k s2 v) (hs:s2=⟨#[]⟩):v=.nilIface:=by
 rcases h with h | ⟨_,h2,_⟩
 ·exact h.2
 ·rw [hs] at h2
  exact absurd h2 (by decide +kernel)
theorem errIs_yes {S:Nat→Prop} {w:World} {s1 s2:ByteArray} {k:Int} {v:Value} (h:ErrIs S w s1 k s2 v) (hs:s2≠⟨#[]⟩):∃b,v=errV b:=by
 rcases h with h | ⟨_,_,b1,b2,h3,_⟩
 ·exact absurd h.1 hs
 ·exact ⟨b1,h3⟩
section
variable {w0 W W' : World} {B g lo hi bs_ bg : Nat} {A9 A8 : Option Addr} {c9 c8 : Nat} {gr : List (List UInt8 × Int)} {al : List (List UInt8)} {lim n : Int} {sid : Option Tm} {T T' : List Tm} {S S' : Nat → Prop} {s : SvS}
theorem known_no (h:SrvM w0 B g lo hi bs_ bg A9 c9 gr A8 c8 al lim n sid T S s W) {l:List Fld} {nk ns:Int} (hk5:Idn T (ofT (atF l 5).s) nk) (hk6:Idn T (ofT (atF l 6).s) ns) (h0:(atF l 0).s.length≤40000) (h1:(atF l 1).s.length≤40000) (h4:(atF l 4).s.length≤40000) (hT:T.length≤900000) (hf:(s.fl:Int)<lim) (hl:s.fl≤1000) {many:Int} (hm:(many == 6)=false) (hs:chkP sid l≠⟨#[]⟩) :
  Calls Tryz.prog 117 #[.pointer (some ⟨bs_,0,none⟩),.agg (saidV l nk ns),.int .i64 many] W (KnwR w0 B g lo hi bs_ bg A9 c9 gr A8 c8 al lim n sid T S W 100 (atF l 1).s (refuseA lim s)):=by
 unfold saidV
 obtain ⟨W0,hW0⟩:∃W0,W0=W.alloc (.cells #[.string (bs (atF l 0).s),.string (bs (atF l 1).s),.string (bs (atF l 2).s),.int .i64 (atF l 3).n,.string (bs (atF l 4).s),.int .i64 nk,.string (bs (atF l 5).s),.int .i64 ns] 142):=⟨_,rfl⟩
 have hb0:Below W.heap.size W W0:=by rw [hW0];exact bel_newF _
 have hX:Blk W0 W.heap.size 142 #[.string (bs (atF l 0).s),.string (bs (atF l 1).s),.string (bs (atF l 2).s),.int .i64 (atF l 3).n,.string (bs (atF l 4).s),.int .i64 nk,.string (bs (atF l 5).s),.int .i64 ns]:=by rw [hW0];exact Blk.new W _ _
 have hM0:=h.below hb0
 have hsL:=h.pay.ar.sL
 have nbs:¬ S bs_:=h.zone.no h.los h.his
 have nbx:¬ S W.heap.size:=fun h9=>by have:=hsL _ h9;omega
 have hhs:=h.his
 have hhg:=h.hig
 have hiw:=h.hiw
 have HC:=hide (show ∀V,Below W0.heap.size W0 V→Calls Tryz.prog 19 #[.pointer (some ⟨g,0,none⟩),.int .i64 n,.string (bs (atF l 0).s),.string (bs (atF l 1).s),.string (bs (atF l 4).s),.int .i64 nk,.int .i64 ns] V (fun e w'=>(∃b,e=.returned (.iface 135 (.pointer (some ⟨b,0,none⟩))))∧∃T' S',T <+: T'∧T'.length≤T.length+11∧Pay w0 B g T' S' w'∧Grown S W0 S' w') from fun V hb =>
  (checkUser_any (hM0.pay.use.below hb) h.id hk5 hk6 (by show (atF l 0).s.length≤_;omega) (by show (atF l 1).s.length≤_;omega) (by show (atF l 4).s.length≤_;omega) (by omega)).mono fun e w' hC=>by
   obtain ⟨T',S',v,e1,e2,e3,e4,e5,e6⟩:=hC
   have hP:=(hM0.pay.below hb).grown e5 e4 (by omega)
   have hG:=(Grown.of_below (S:=S) hb).trans e5
   obtain ⟨b,rfl⟩:=errIs_yes e6 hs
   exact ⟨⟨b,e1⟩,T',S',e2,e3,hP,hG⟩)
 have x0:=hM0.sb.cell 0
 have x1:=hM0.sb.cell 1
 have r0:=hX.cell 0
 have r1:=hX.cell 1
 have r4:=hX.cell 4
 have r5:=hX.cell 5
 have r7:=hX.cell 7
 simp only [List.getElem?_toArray,List.getElem?_cons_zero,List.getElem?_cons_succ] at x0 x1 r0 r1 r4 r5 r7
 have HM0:=hide hM0
 have Hb0:=hide hb0
 have hxl:=hX.lt
 have Hid:=hide (And.intro hk5 hk6)
 clear h hM0 hsL hX hk5 hk6 hb0
 have HL:=hide (And.intro h0 (And.intro h1 h4))
 clear h0 h1 h4
 generalize hu0:bs (atF l 0).s=u0 at HC r0 hW0 ⊢
 generalize hu1:bs (atF l 1).s=u1 at HC r1 hW0 ⊢
 generalize hu4:bs (atF l 4).s=u4 at HC r4 hW0 ⊢
 have Hu:=hide (And.intro hu0 (And.intro hu1 hu4))
 clear hu0 hu1 hu4
 go_enter Tryz.func117,Tryz.ntmps117
 go_upto_region 1 with fail
 rw [←hW0]
 clear hW0
 go_upto_region 4 with fail
 go_region_held3 (fun V=>V.cell? ⟨bs_,0,none⟩=some (.pointer (some ⟨g,0,none⟩))∧V.cell? ⟨bs_,1,none⟩=some (.int .i64 n)∧V.cell? ⟨W.heap.size,0,none⟩=some (.string u0)∧V.cell? ⟨W.heap.size,1,none⟩=some (.string u1)∧V.cell? ⟨W.heap.size,4,none⟩=some (.string u4)∧V.cell? ⟨W.heap.size,5,none⟩=some (.int .i64 nk)∧V.cell? ⟨W.heap.size,7,none⟩=some (.int .i64 ns))
  (exact ⟨x0,x1,r0,r1,r4,r5,r7⟩)
  (first
   | (go_at_call 19;refine (HC.out _ (by exact bel_by)).mono ?_;rintro e w2 ⟨⟨b,rfl⟩,T2,S2,hp2,hl2,hP2,hG2⟩;replace x0:=hG2.outs.cell x0 nbs;replace x1:=hG2.outs.cell x1 nbs;replace r0:=hG2.outs.cell r0 nbx;replace r1:=hG2.outs.cell r1 nbx;replace r4:=hG2.outs.cell r4 nbx;replace r5:=hG2.outs.cell r5 nbx;replace r7:=hG2.outs.cell r7 nbx)
   | fail)
 have HM2:=hide (HM0.out.grown hG2 hP2 hp2)
 have HG2:=hide (((Grown.of_below Hb0.out).trans hG2).sb bs_ bg)
 have Hp:=hide (And.intro hp2 hl2)
 have hsz2:=hG2.size
 have HR:=hide (refuse_any HM2.out hf hl)
 clear hG2 hP2 hp2 hl2 HC x0 x1 r0 r1 r4 r5 r7
 go_wp2_with fail
 refine HR.out.mono ?_
 rintro e w3 ⟨er,rfl,hev,_,hM3,hG3⟩
 have Hf:=hide (And.intro hev (And.intro hM3 hG3))
 clear hev hM3 hG3
 generalize hz:bs (refuseA lim s).2.out=z
 have Hz:=hide hz
 clear hz
 go_wp2_with fail
 go_ret3
 have hz:=Hz.out
 subst hz
 exact ⟨T2,S2,.slice none 0 0,er,rfl,by rw [refuseA_ev];rfl,Hf.out.1,Hp.out.1,by have:=Hp.out.2;omega,Hf.out.2.1,HG2.out.trans Hf.out.2.2⟩
theorem known_yes (h:SrvM w0 B g lo hi bs_ bg A9 c9 gr A8 c8 al lim n sid T S s W) {l:List Fld} {nk ns:Int} (hk5:Idn T (ofT (atF l 5).s) nk) (hk6:Idn T (ofT (atF l 6).s) ns) (h0:(atF l 0).s.length≤40000) (h1:(atF l 1).s.length≤40000) (h4:(atF l 4).s.length≤40000) (hT:T.length≤900000) (hf:(s.fl:Int)<lim) (hl:s.fl≤1000) {many:Int} (hm:(many == 6)=false) (hs:chkP sid l=⟨#[]⟩) :
  Calls Tryz.prog 117 #[.pointer (some ⟨bs_,0,none⟩),.agg (saidV l nk ns),.int .i64 many] W (KnwR w0 B g lo hi bs_ bg A9 c9 gr A8 c8 al lim n sid T S W 100 (atF l 1).s ((⟨2,s.fl⟩,⟨[52],some (whoO (ofT (atF l 5).s),(atF l 0).s,(atF l 4).s),none⟩))):=by
 unfold saidV
 obtain ⟨W0,hW0⟩:∃W0,W0=W.alloc (.cells #[.string (bs (atF l 0).s),.string (bs (atF l 1).s),.string (bs (atF l 2).s),.int .i64 (atF l 3).n,.string (bs (atF l 4).s),.int .i64 nk,.string (bs (atF l 5).s),.int .i64 ns] 142):=⟨_,rfl⟩
 have hb0:Below W.heap.size W W0:=by rw [hW0];exact bel_newF _
 have hX:Blk W0 W.heap.size 142 #[.string (bs (atF l 0).s),.string (bs (atF l 1).s),.string (bs (atF l 2).s),.int .i64 (atF l 3).n,.string (bs (atF l 4).s),.int .i64 nk,.string (bs (atF l 5).s),.int .i64 ns]:=by rw [hW0];exact Blk.new W _ _
 have hM0:=h.below hb0
 have hsL:=h.pay.ar.sL
 have nbs:¬ S bs_:=h.zone.no h.los h.his
 have nbx:¬ S W.heap.size:=fun h9=>by have:=hsL _ h9;omega
 have hhs:=h.his
 have hhg:=h.hig
 have hiw:=h.hiw
 have HC:=hide (show ∀V,Below W0.heap.size W0 V→Calls Tryz.prog 19 #[.pointer (some ⟨g,0,none⟩),.int .i64 n,.string (bs (atF l 0).s),.string (bs (atF l 1).s),.string (bs (atF l 4).s),.int .i64 nk,.int .i64 ns] V (fun e w'=>e=.returned .nilIface∧∃T' S',T <+: T'∧T'.length≤T.length+11∧Pay w0 B g T' S' w'∧Grown S W0 S' w') from fun V hb =>
  (checkUser_any (hM0.pay.use.below hb) h.id hk5 hk6 (by show (atF l 0).s.length≤_;omega) (by show (atF l 1).s.length≤_;omega) (by show (atF l 4).s.length≤_;omega) (by omega)).mono fun e w' hC=>by
   obtain ⟨T',S',v,e1,e2,e3,e4,e5,e6⟩:=hC
   have hP:=(hM0.pay.below hb).grown e5 e4 (by omega)
   have hG:=(Grown.of_below (S:=S) hb).trans e5
   obtain rfl:=errIs_no e6 hs
   exact ⟨e1,T',S',e2,e3,hP,hG⟩)
 have x0:=hM0.sb.cell 0
 have x1:=hM0.sb.cell 1
 have r0:=hX.cell 0
 have r1:=hX.cell 1
 have r4:=hX.cell 4
 have r5:=hX.cell 5
 have r7:=hX.cell 7
 simp only [List.getElem?_toArray,List.getElem?_cons_zero,List.getElem?_cons_succ] at x0 x1 r0 r1 r4 r5 r7
 have HM0:=hide hM0
 have Hb0:=hide hb0
 have hxl:=hX.lt
 have Hid:=hide (And.intro hk5 hk6)
 clear h hM0 hsL hX hk5 hk6 hb0
 have HL:=hide (And.intro h0 (And.intro h1 h4))
 clear h0 h1 h4
 generalize hu0:bs (atF l 0).s=u0 at HC r0 hW0 ⊢
 generalize hu1:bs (atF l 1).s=u1 at HC r1 hW0 ⊢
 generalize hu4:bs (atF l 4).s=u4 at HC r4 hW0 ⊢
 have Hu:=hide (And.intro hu0 (And.intro hu1 hu4))
 clear hu0 hu1 hu4
 go_enter Tryz.func117,Tryz.ntmps117
 go_upto_region 1 with fail
 rw [←hW0]
 clear hW0
 go_upto_region 4 with fail
 go_region_held3 (fun V=>V.cell? ⟨bs_,0,none⟩=some (.pointer (some ⟨g,0,none⟩))∧V.cell? ⟨bs_,1,none⟩=some (.int .i64 n)∧V.cell? ⟨W.heap.size,0,none⟩=some (.string u0)∧V.cell? ⟨W.heap.size,1,none⟩=some (.string u1)∧V.cell? ⟨W.heap.size,4,none⟩=some (.string u4)∧V.cell? ⟨W.heap.size,5,none⟩=some (.int .i64 nk)∧V.cell? ⟨W.heap.size,7,none⟩=some (.int .i64 ns))
  (exact ⟨x0,x1,r0,r1,r4,r5,r7⟩)
  (first
   | (go_at_call 19;refine (HC.out _ (by exact bel_by)).mono ?_;rintro e w2 ⟨rfl,T2,S2,hp2,hl2,hP2,hG2⟩;replace x0:=hG2.outs.cell x0 nbs;replace x1:=hG2.outs.cell x1 nbs;replace r0:=hG2.outs.cell r0 nbx;replace r1:=hG2.outs.cell r1 nbx;replace r4:=hG2.outs.cell r4 nbx;replace r5:=hG2.outs.cell r5 nbx;replace r7:=hG2.outs.cell r7 nbx)
   | fail)
 have HM2:=hide (HM0.out.grown hG2 hP2 hp2)
 have HG2:=hide (((Grown.of_below Hb0.out).trans hG2).sb bs_ bg)
 have Hp:=hide (And.intro hp2 hl2)
 have hsz2:=hG2.size
 have HO:=hide (fun (V:World) (hb:Below w2.heap.size w2 V)=>(owner_any (HM2.out.pay.ar.below hb) (Hid.out.1.pre Hp.out.1)).mono fun e w' h9=>(⟨h9.1,hb.trans (h9.2.mono hb.size)⟩:_∧Below w2.heap.size w2 w'))
 clear hG2 hP2 hp2 hl2 HC HL
 have hPk:isPb (ofT (atF l 5).s)=true:=by
  cases hq:isPb (ofT (atF l 5).s) with
  | true=>rfl
  | false =>
   have h9:chkP sid l=keyB:=chk_a hq
   rw [hs] at h9
   exact absurd h9 (by decide)
 rw [hPk] at HO
 have HW:=hide (show whoO (ofT (atF l 5).s)=whoO (ofT (atF l 5).s) from rfl)
 generalize hwho:whoO (ofT (atF l 5).s)=who at HO
 have Hwho:=hide hwho
 clear hPk hs HW hwho
 go_upto_region 7 with fail
 go_region_held3 (fun V=>V.cell? ⟨bs_,0,none⟩=some (.pointer (some ⟨g,0,none⟩))∧V.cell? ⟨W.heap.size,5,none⟩=some (.int .i64 nk))
  (exact ⟨x0,r5⟩)
  (first
   | (go_at_call 49;refine (HO.out _ (by exact bel_by)).mono ?_;rintro e w3 ⟨rfl,hb3⟩;replace x0:=cellB hb3 x0;replace r5:=cellB hb3 r5)
   | fail)
 have HM3:=hide (HM2.out.below hb3)
 have HG3:=hide (HG2.out.trans (Grown.of_below hb3))
 have r0:=cellB hb3 r0
 have r1:=cellB hb3 r1
 have r4:=cellB hb3 r4
 have hB3:=HM3.out.sb
 have c3:=hB3.cell 3
 have f3:=hB3.frozen 3
 simp only [List.getElem?_toArray,List.getElem?_cons_zero,List.getElem?_cons_succ] at c3
 obtain ⟨w4,hw4⟩:∃W4,W4=w3.setCell ⟨bs_,3,none⟩ (.int .i64 2):=⟨_,rfl⟩
 have k4:w3.grownBy w4 (some bs_):=by rw [hw4];exact only_setCell (only_refl w3 (some bs_)) (.inl rfl) _
 have hB4:Blk w4 bs_ 95 #[.pointer (some ⟨g,0,none⟩),.int .i64 n,.pointer (some ⟨bg,0,none⟩),.int .i64 2]:=by rw [hw4];have:=hB3.set_ 3 (.int .i64 2);simpa using this
 have HM4:=hide (HM3.out.setPh (ph:=2) k4 hB4)
 have HG4:=hide (HG3.out.trans (sb_1 (S:=S2) (b2:=bg) k4))
 have y1:=hB4.cell 1
 simp only [List.getElem?_toArray,List.getElem?_cons_zero,List.getElem?_cons_succ] at y1
 have hne:W.heap.size≠bs_:=by omega
 have r0:=(World.cell?_of_block (k4.block W.heap.size (block_lt_of_cell r0) (fun e=>hne (Option.some.inj e)))).trans r0
 have r1:=(World.cell?_of_block (k4.block W.heap.size (block_lt_of_cell r1) (fun e=>hne (Option.some.inj e)))).trans r1
 have r4:=(World.cell?_of_block (k4.block W.heap.size (block_lt_of_cell r4) (fun e=>hne (Option.some.inj e)))).trans r4
 have HE:=hide (encode_anyM (w:=w4) 52 (l:=[]) (c:=0) (flds_nil w4 none) (by simp) (by simp))
 clear hB3 hB4 k4 hb3 x0 x1 r5 r7 HO
 go_upto_region 9 with fail
 rw [←hw4]
 clear hw4 c3 f3
 go_wp2_with fail
 refine HE.out.mono ?_
 rintro e w5 ⟨hb5,⟨q,hq,rfl⟩ | ⟨b,ps,k,hk,rfl,_⟩⟩
 ·rw [enc_success] at hq
  cases hq
  have y1:=cellB hb5 y1
  have r0:=cellB hb5 r0
  have r1:=cellB hb5 r1
  have r4:=cellB hb5 r4
  have HM5:=hide (HM4.out.below hb5)
  have HG5:=hide (HG4.out.trans (Grown.of_below hb5))
  clear hb5 HE
  go_upto_region 10 with fail
  go_region_held3 (fun V=>V.cell? ⟨bs_,1,none⟩=some (.int .i64 n)∧V.cell? ⟨W.heap.size,0,none⟩=some (.string u0)∧V.cell? ⟨W.heap.size,1,none⟩=some (.string u1)∧V.cell? ⟨W.heap.size,4,none⟩=some (.string u4))
   (first | exact ⟨y1,r0,r1,r4⟩ | exact ⟨cell_alK y1,cell_alK r0,cell_alK r1,cell_alK r4⟩)
   (fail)
  clear y1 r0 r1 r4
  go_wp2_with fail
  go_ret3
  obtain ⟨z0,z1,z4⟩:=Hu.out
  have zw:=Hwho.out
  subst z0 z1 z4 zw
  refine ⟨T2,S2,_,.nilIface,rfl,⟨_,rfl,?_⟩,rfl,Hp.out.1,by have:=Hp.out.2;omega,HM5.out.below ?_,HG5.out.trans (Grown.of_below ?_)⟩
  ·exact Blk.new _ _ _
  ·exact bel_by
  ·exact bel_by
 ·rw [enc_success] at hk
  cases hk
end
section
variable {w0 W W' : World} {B g lo hi bs_ bg : Nat} {A9 A8 : Option Addr} {c9 c8 : Nat} {gr : List (List UInt8 × Int)} {al : List (List UInt8)} {lim n : Int} {sid : Option Tm} {T T' : List Tm} {S S' : Nat → Prop} {s : SvS}
theorem asks_6 (h:SrvM w0 B g lo hi bs_ bg A9 c9 gr A8 c8 al lim n sid T S s W) {l:List Fld} {nk ns:Int} (hk5:Idn T (ofT (atF l 5).s) nk) (hk6:Idn T (ofT (atF l 6).s) ns) (h0:(atF l 0).s.length≤40000) (h1:(atF l 1).s.length≤40000) (h4:(atF l 4).s.length≤40000) (h5:(atF l 5).s.length≤40000) (hT:T.length≤900000) (hf:(s.fl:Int)<lim) (hl:s.fl≤1000) (hgl:gr.length≤1000) (hal:al.length≤1000) (hm:l.length=6) :
  Calls Tryz.prog 71 #[.pointer (some ⟨bs_,0,none⟩),.agg (saidV l nk ns),.int .i64 6] W (KnwR w0 B g lo hi bs_ bg A9 c9 gr A8 c8 al lim n sid T S W 100 (atF l 1).s (askA gr al lim sid s l)):=by
 have hc0:¬ (l.length≠6∧l.length≠7):=by omega
 have HKQ:=hide (fun (V:World) (hb:Below W.heap.size W V)=>known_q (h.below hb) (nk:=nk) (ns:=ns) h4 h5)
 obtain ⟨W0,hW0⟩:∃W0,W0=W.alloc (.cells #[.string (bs (atF l 0).s),.string (bs (atF l 1).s),.string (bs (atF l 2).s),.int .i64 (atF l 3).n,.string (bs (atF l 4).s),.int .i64 nk,.string (bs (atF l 5).s),.int .i64 ns] 142):=⟨_,rfl⟩
 have hb0:Below W.heap.size W W0:=by rw [hW0];exact bel_newF _
 have hX:Blk W0 W.heap.size 142 #[.string (bs (atF l 0).s),.string (bs (atF l 1).s),.string (bs (atF l 2).s),.int .i64 (atF l 3).n,.string (bs (atF l 4).s),.int .i64 nk,.string (bs (atF l 5).s),.int .i64 ns]:=by rw [hW0];exact Blk.new W _ _
 have hM0:=h.below hb0
 have x0:=hM0.sb.cell 0
 have x2:=hM0.sb.cell 2
 have r0:=hX.cell 0
 have r2:=hX.cell 2
 have r3:=hX.cell 3
 have r4:=hX.cell 4
 have r5:=hX.cell 5
 simp only [List.getElem?_toArray,List.getElem?_cons_zero,List.getElem?_cons_succ] at x0 x2 r0 r2 r3 r4 r5
 have HM0:=hide hM0
 have Hb0:=hide hb0
 have HXb:=hide hX
 have HRf:=hide (fun (V:World) (hb:Below W.heap.size W V)=>refuse_any (h.below hb) hf hl)
 have HH:=hide (fun (V:World) (hb:Below W0.heap.size W0 V)=>(ghas_any (hM0.below hb) hk5 (atF l 0).s (atF l 4).s hgl hal).mono fun e w' h9=>(⟨h9.1,hb.trans (h9.2.mono hb.size)⟩:_∧Below W0.heap.size W0 w'))
 have HO:=hide (fun (V:World)=>fof_any ⟨#[115,105,103,110,101,100]⟩ 3 (by decide) V)
 clear h hM0 hb0 hX hk5 hk6
 unfold saidV
 by_cases c2:(atF l 2).s=pubkeyL
 ·have e2:((bs (atF l 2).s).toList == ([112,117,98,108,105,99,107,101,121]:List UInt8))=true:=by rw [bs_toList,c2];rfl
  by_cases c3:(atF l 3).n=0
  ·have e3:((atF l 3).n != 0)=false:=by rw [c3];rfl
   cases c4:hasG gr al (atF l 0).s (atF l 4).s (ofT (atF l 5).s) with
   | false =>
    have hE:askA gr al lim sid s l=refuseA lim s:=by
     unfold askA
     rw [if_neg hc0,if_neg (fun h9=>h9 c2),if_neg (fun h9=>h9 (by rw [c3,hm];rfl)),if_pos c4]
    rw [hE]
    rw [c4] at HH
    clear c2 c3 c4 hE hc0 HO HKQ
    go_enter Tryz.func71,Tryz.ntmps71
    go_upto_region 1 with fail
    rw [←hW0]
    clear hW0
    go_upto_region 9 with fail
    go_region_held3 (fun V=>V.cell? ⟨bs_,2,none⟩=some (.pointer (some ⟨bg,0,none⟩))∧V.cell? ⟨bs_,0,none⟩=some (.pointer (some ⟨g,0,none⟩))∧V.cell? ⟨W.heap.size,0,none⟩=some (.string (bs (atF l 0).s))∧V.cell? ⟨W.heap.size,4,none⟩=some (.string (bs (atF l 4).s))∧V.cell? ⟨W.heap.size,5,none⟩=some (.int .i64 nk))
     (exact ⟨x2,x0,r0,r4,r5⟩)
     (first
      | (go_at_call 116;refine (HH.out _ (by exact bel_by)).mono ?_;rintro e w2 ⟨rfl,hb2⟩;replace x2:=cellB hb2 x2;replace x0:=cellB hb2 x0;replace r0:=cellB hb2 r0;replace r4:=cellB hb2 r4;replace r5:=cellB hb2 r5)
      | fail)
    have hbw2:=Hb0.out.trans (hb2.mono Hb0.out.size)
    have HR:=hide (HRf.out w2 hbw2)
    have Hbw2:=hide hbw2
    clear x2 x0 r0 r4 r5 r2 r3 hb2 hbw2 HH HRf
    go_wp2_with fail
    refine HR.out.mono ?_
    rintro e w3 ⟨er,rfl,hev,_,hM3,hG3⟩
    have Hf:=hide (And.intro hev (And.intro hM3 hG3))
    clear hev hM3 hG3
    generalize hz:bs (refuseA lim s).2.out=z
    have Hz:=hide hz
    clear hz
    go_wp2_with fail
    go_ret3
    have hz:=Hz.out
    subst hz
    exact ⟨T,S,.slice none 0 0,er,rfl,by rw [refuseA_ev];rfl,Hf.out.1,List.prefix_refl _,by omega,Hf.out.2.1,((Grown.of_below Hbw2.out).sb _ _).trans Hf.out.2.2⟩
   | true =>
    have hE:askA gr al lim sid s l=knownA lim sid s l l.length:=by
     unfold askA
     rw [if_neg hc0,if_neg (fun h9=>h9 c2),if_neg (fun h9=>h9 (by rw [c3,hm];rfl)),if_neg (by rw [c4];decide)]
    rw [hE,hm]
    rw [c4] at HH
    clear c2 c3 c4 hE hc0 HO HRf
    go_enter Tryz.func71,Tryz.ntmps71
    go_upto_region 1 with fail
    rw [←hW0]
    clear hW0
    go_upto_region 9 with fail
    go_region_held3 (fun V=>V.cell? ⟨bs_,2,none⟩=some (.pointer (some ⟨bg,0,none⟩))∧V.cell? ⟨bs_,0,none⟩=some (.pointer (some ⟨g,0,none⟩))∧V.cell? ⟨W.heap.size,0,none⟩=some (.string (bs (atF l 0).s))∧V.cell? ⟨W.heap.size,4,none⟩=some (.string (bs (atF l 4).s))∧V.cell? ⟨W.heap.size,5,none⟩=some (.int .i64 nk))
     (exact ⟨x2,x0,r0,r4,r5⟩)
     (first
      | (go_at_call 116;refine (HH.out _ (by exact bel_by)).mono ?_;rintro e w2 ⟨rfl,hb2⟩;replace x2:=cellB hb2 x2;replace x0:=cellB hb2 x0;replace r0:=cellB hb2 r0;replace r4:=cellB hb2 r4;replace r5:=cellB hb2 r5)
      | fail)
    have hbw2:=Hb0.out.trans (hb2.mono Hb0.out.size)
    have Hbw2:=hide hbw2
    have hX2:=HXb.out.below hb2 HXb.out.lt
    have r1:=hX2.cell 1
    have r2:=hX2.cell 2
    have r3:=hX2.cell 3
    have r6:=hX2.cell 6
    have r7:=hX2.cell 7
    simp only [List.getElem?_toArray,List.getElem?_cons_zero,List.getElem?_cons_succ] at r1 r2 r3 r6 r7
    clear hX2 hb2 hbw2 HH
    have HEk:=hide (show knownA lim sid s l 6=queryA s l from by unfold knownA;rw [if_pos rfl])
    have HK:=hide (HKQ.out w2 Hbw2.out)
    unfold saidV at HK
    clear HKQ
    go_wp2_with fail
    refine HK.out.mono ?_
    rintro e w3 ⟨T3,S3,ev,er,rfl,hev,her,hp3,hl3,hM3,hG3⟩
    have Hf:=hide (And.intro hev (And.intro her (And.intro hp3 (And.intro hl3 (And.intro hM3 hG3)))))
    clear hev her hp3 hl3 hM3 hG3
    generalize hz:bs (queryA s l).2.out=z
    have Hz:=hide hz
    clear hz
    go_wp2_with fail
    go_ret3
    have hz:=Hz.out
    subst hz
    obtain ⟨hev,her,hp3,hl3,hM3,hG3⟩:=Hf.out
    rw [HEk.out]
    exact ⟨T3,S3,ev,er,rfl,hev,her,hp3,hl3,hM3,((Grown.of_below Hbw2.out).sb _ _).trans hG3⟩
  ·have e3:((atF l 3).n != 0)=true:=by rw [bne_iff_ne];exact c3
   have hE:askA gr al lim sid s l=failA s [signedL] 3:=by
    unfold askA
    rw [if_neg hc0,if_neg (fun h9=>h9 c2),if_pos (by rw [hm];exact c3)]
   rw [hE]
   clear c2 c3 hE hc0 HH HRf
   go_enter Tryz.func71,Tryz.ntmps71
   go_upto_region 1 with fail
   rw [←hW0]
   clear hW0
   go_wp2_with fail
   refine (HO.out _).mono ?_
   rintro e w2 ⟨b,rfl,hi2,hb2⟩
   have Hi:=hide (And.intro hi2 hb2)
   clear hi2 hb2
   go_wp2_with fail
   go_ret3
   exact ⟨T,S,.slice none 0 0,errV b,rfl,rfl,Hi.out.1,List.prefix_refl _,by omega,HM0.out.below Hi.out.2,(Grown.of_below (Hb0.out.trans (Hi.out.2.mono Hb0.out.size))).sb _ _⟩
 ·have e2:((bs (atF l 2).s).toList == ([112,117,98,108,105,99,107,101,121]:List UInt8))=false:=by rw [bs_toList,beq_eq_false_iff_ne];exact c2
  have hE:askA gr al lim sid s l=refuseA lim s:=by
   unfold askA
   rw [if_neg hc0,if_pos c2]
  rw [hE]
  have HR:=hide (HRf.out W0 Hb0.out)
  clear c2 hE hc0 HH HRf HO HKQ
  go_enter Tryz.func71,Tryz.ntmps71
  go_upto_region 1 with fail
  rw [←hW0]
  clear hW0
  go_wp2_with fail
  refine HR.out.mono ?_
  rintro e w3 ⟨er,rfl,hev,_,hM3,hG3⟩
  have Hf:=hide (And.intro hev (And.intro hM3 hG3))
  clear hev hM3 hG3
  generalize hz:bs (refuseA lim s).2.out=z
  have Hz:=hide hz
  clear hz
  go_wp2_with fail
  go_ret3
  have hz:=Hz.out
  subst hz
  exact ⟨T,S,.slice none 0 0,er,rfl,by rw [refuseA_ev];rfl,Hf.out.1,List.prefix_refl _,by omega,Hf.out.2.1,((Grown.of_below Hb0.out).sb _ _).trans Hf.out.2.2⟩
theorem asks_7 (h:SrvM w0 B g lo hi bs_ bg A9 c9 gr A8 c8 al lim n sid T S s W) {l:List Fld} {nk ns:Int} (hk5:Idn T (ofT (atF l 5).s) nk) (hk6:Idn T (ofT (atF l 6).s) ns) (h0:(atF l 0).s.length≤40000) (h1:(atF l 1).s.length≤40000) (h4:(atF l 4).s.length≤40000) (h5:(atF l 5).s.length≤40000) (hT:T.length≤900000) (hf:(s.fl:Int)<lim) (hl:s.fl≤1000) (hgl:gr.length≤1000) (hal:al.length≤1000) (hm:l.length=7) :
  Calls Tryz.prog 71 #[.pointer (some ⟨bs_,0,none⟩),.agg (saidV l nk ns),.int .i64 7] W (KnwR w0 B g lo hi bs_ bg A9 c9 gr A8 c8 al lim n sid T S W 100 (atF l 1).s (askA gr al lim sid s l)):=by
 have hc0:¬ (l.length≠6∧l.length≠7):=by omega
 have HKY:=hide (fun (hs:chkP sid l=⟨#[]⟩) (V:World) (hb:Below W.heap.size W V)=>known_yes (h.below hb) hk5 hk6 h0 h1 h4 hT hf hl (many:=7) rfl hs)
 have HKN:=hide (fun (hs:chkP sid l≠⟨#[]⟩) (V:World) (hb:Below W.heap.size W V)=>known_no (h.below hb) hk5 hk6 h0 h1 h4 hT hf hl (many:=7) rfl hs)
 obtain ⟨W0,hW0⟩:∃W0,W0=W.alloc (.cells #[.string (bs (atF l 0).s),.string (bs (atF l 1).s),.string (bs (atF l 2).s),.int .i64 (atF l 3).n,.string (bs (atF l 4).s),.int .i64 nk,.string (bs (atF l 5).s),.int .i64 ns] 142):=⟨_,rfl⟩
 have hb0:Below W.heap.size W W0:=by rw [hW0];exact bel_newF _
 have hX:Blk W0 W.heap.size 142 #[.string (bs (atF l 0).s),.string (bs (atF l 1).s),.string (bs (atF l 2).s),.int .i64 (atF l 3).n,.string (bs (atF l 4).s),.int .i64 nk,.string (bs (atF l 5).s),.int .i64 ns]:=by rw [hW0];exact Blk.new W _ _
 have hM0:=h.below hb0
 have x0:=hM0.sb.cell 0
 have x2:=hM0.sb.cell 2
 have r0:=hX.cell 0
 have r2:=hX.cell 2
 have r3:=hX.cell 3
 have r4:=hX.cell 4
 have r5:=hX.cell 5
 simp only [List.getElem?_toArray,List.getElem?_cons_zero,List.getElem?_cons_succ] at x0 x2 r0 r2 r3 r4 r5
 have HM0:=hide hM0
 have Hb0:=hide hb0
 have HXb:=hide hX
 have HRf:=hide (fun (V:World) (hb:Below W.heap.size W V)=>refuse_any (h.below hb) hf hl)
 have HH:=hide (fun (V:World) (hb:Below W0.heap.size W0 V)=>(ghas_any (hM0.below hb) hk5 (atF l 0).s (atF l 4).s hgl hal).mono fun e w' h9=>(⟨h9.1,hb.trans (h9.2.mono hb.size)⟩:_∧Below W0.heap.size W0 w'))
 have HO:=hide (fun (V:World)=>fof_any ⟨#[115,105,103,110,101,100]⟩ 3 (by decide) V)
 clear h hM0 hb0 hX hk5 hk6
 unfold saidV
 by_cases c2:(atF l 2).s=pubkeyL
 ·have e2:((bs (atF l 2).s).toList == ([112,117,98,108,105,99,107,101,121]:List UInt8))=true:=by rw [bs_toList,c2];rfl
  by_cases c3:(atF l 3).n=1
  ·have e3:((atF l 3).n != 1)=false:=by rw [c3];rfl
   cases c4:hasG gr al (atF l 0).s (atF l 4).s (ofT (atF l 5).s) with
   | false =>
    have hE:askA gr al lim sid s l=refuseA lim s:=by
     unfold askA
     rw [if_neg hc0,if_neg (fun h9=>h9 c2),if_neg (fun h9=>h9 (by rw [c3,hm];rfl)),if_pos c4]
    rw [hE]
    rw [c4] at HH
    clear c2 c3 c4 hE hc0 HO HKY HKN
    go_enter Tryz.func71,Tryz.ntmps71
    go_upto_region 1 with fail
    rw [←hW0]
    clear hW0
    go_upto_region 9 with fail
    go_region_held3 (fun V=>V.cell? ⟨bs_,2,none⟩=some (.pointer (some ⟨bg,0,none⟩))∧V.cell? ⟨bs_,0,none⟩=some (.pointer (some ⟨g,0,none⟩))∧V.cell? ⟨W.heap.size,0,none⟩=some (.string (bs (atF l 0).s))∧V.cell? ⟨W.heap.size,4,none⟩=some (.string (bs (atF l 4).s))∧V.cell? ⟨W.heap.size,5,none⟩=some (.int .i64 nk))
     (exact ⟨x2,x0,r0,r4,r5⟩)
     (first
      | (go_at_call 116;refine (HH.out _ (by exact bel_by)).mono ?_;rintro e w2 ⟨rfl,hb2⟩;replace x2:=cellB hb2 x2;replace x0:=cellB hb2 x0;replace r0:=cellB hb2 r0;replace r4:=cellB hb2 r4;replace r5:=cellB hb2 r5)
      | fail)
    have hbw2:=Hb0.out.trans (hb2.mono Hb0.out.size)
    have HR:=hide (HRf.out w2 hbw2)
    have Hbw2:=hide hbw2
    clear x2 x0 r0 r4 r5 r2 r3 hb2 hbw2 HH HRf
    go_wp2_with fail
    refine HR.out.mono ?_
    rintro e w3 ⟨er,rfl,hev,_,hM3,hG3⟩
    have Hf:=hide (And.intro hev (And.intro hM3 hG3))
    clear hev hM3 hG3
    generalize hz:bs (refuseA lim s).2.out=z
    have Hz:=hide hz
    clear hz
    go_wp2_with fail
    go_ret3
    have hz:=Hz.out
    subst hz
    exact ⟨T,S,.slice none 0 0,er,rfl,by rw [refuseA_ev];rfl,Hf.out.1,List.prefix_refl _,by omega,Hf.out.2.1,((Grown.of_below Hbw2.out).sb _ _).trans Hf.out.2.2⟩
   | true =>
    have hE:askA gr al lim sid s l=knownA lim sid s l l.length:=by
     unfold askA
     rw [if_neg hc0,if_neg (fun h9=>h9 c2),if_neg (fun h9=>h9 (by rw [c3,hm];rfl)),if_neg (by rw [c4];decide)]
    rw [hE,hm]
    rw [c4] at HH
    clear c2 c3 c4 hE hc0 HO HRf
    go_enter Tryz.func71,Tryz.ntmps71
    go_upto_region 1 with fail
    rw [←hW0]
    clear hW0
    go_upto_region 9 with fail
    go_region_held3 (fun V=>V.cell? ⟨bs_,2,none⟩=some (.pointer (some ⟨bg,0,none⟩))∧V.cell? ⟨bs_,0,none⟩=some (.pointer (some ⟨g,0,none⟩))∧V.cell? ⟨W.heap.size,0,none⟩=some (.string (bs (atF l 0).s))∧V.cell? ⟨W.heap.size,4,none⟩=some (.string (bs (atF l 4).s))∧V.cell? ⟨W.heap.size,5,none⟩=some (.int .i64 nk))
     (exact ⟨x2,x0,r0,r4,r5⟩)
     (first
      | (go_at_call 116;refine (HH.out _ (by exact bel_by)).mono ?_;rintro e w2 ⟨rfl,hb2⟩;replace x2:=cellB hb2 x2;replace x0:=cellB hb2 x0;replace r0:=cellB hb2 r0;replace r4:=cellB hb2 r4;replace r5:=cellB hb2 r5)
      | fail)
    have hbw2:=Hb0.out.trans (hb2.mono Hb0.out.size)
    have Hbw2:=hide hbw2
    have hX2:=HXb.out.below hb2 HXb.out.lt
    have r1:=hX2.cell 1
    have r2:=hX2.cell 2
    have r3:=hX2.cell 3
    have r6:=hX2.cell 6
    have r7:=hX2.cell 7
    simp only [List.getElem?_toArray,List.getElem?_cons_zero,List.getElem?_cons_succ] at r1 r2 r3 r6 r7
    clear hX2 hb2 hbw2 HH
    by_cases hch:chkP sid l=⟨#[]⟩
    ·have HEk:=hide (show knownA lim sid s l 7=(⟨2,s.fl⟩,⟨[52],some (whoO (ofT (atF l 5).s),(atF l 0).s,(atF l 4).s),none⟩) from by unfold knownA;rw [if_neg (by decide)];exact if_pos hch)
     have HK:=hide (HKY.out hch w2 Hbw2.out)
     unfold saidV at HK
     clear HKY HKN hch
     go_wp2_with fail
     refine HK.out.mono ?_
     rintro e w3 ⟨T3,S3,ev,er,rfl,hev,her,hp3,hl3,hM3,hG3⟩
     have Hf:=hide (And.intro hev (And.intro her (And.intro hp3 (And.intro hl3 (And.intro hM3 hG3)))))
     clear hev her hp3 hl3 hM3 hG3
     generalize hz:bs (((⟨2,s.fl⟩,⟨[52],some (whoO (ofT (atF l 5).s),(atF l 0).s,(atF l 4).s),none⟩):SvS × OutA)).2.out=z
     have Hz:=hide hz
     clear hz
     go_wp2_with fail
     go_ret3
     have hz:=Hz.out
     subst hz
     obtain ⟨hev,her,hp3,hl3,hM3,hG3⟩:=Hf.out
     rw [HEk.out]
     exact ⟨T3,S3,ev,er,rfl,hev,her,hp3,hl3,hM3,((Grown.of_below Hbw2.out).sb _ _).trans hG3⟩
    ·have HEk:=hide (show knownA lim sid s l 7=refuseA lim s from by unfold knownA;rw [if_neg (by decide)];exact if_neg hch)
     have HK:=hide (HKN.out hch w2 Hbw2.out)
     unfold saidV at HK
     clear HKY HKN hch
     go_wp2_with fail
     refine HK.out.mono ?_
     rintro e w3 ⟨T3,S3,ev,er,rfl,hev,her,hp3,hl3,hM3,hG3⟩
     have Hf:=hide (And.intro hev (And.intro her (And.intro hp3 (And.intro hl3 (And.intro hM3 hG3)))))
     clear hev her hp3 hl3 hM3 hG3
     generalize hz:bs (refuseA lim s).2.out=z
     have Hz:=hide hz
     clear hz
     go_wp2_with fail
     go_ret3
     have hz:=Hz.out
     subst hz
     obtain ⟨hev,her,hp3,hl3,hM3,hG3⟩:=Hf.out
     rw [HEk.out]
     exact ⟨T3,S3,ev,er,rfl,hev,her,hp3,hl3,hM3,((Grown.of_below Hbw2.out).sb _ _).trans hG3⟩
  ·have e3:((atF l 3).n != 1)=true:=by rw [bne_iff_ne];exact c3
   have hE:askA gr al lim sid s l=failA s [signedL] 3:=by
    unfold askA
    rw [if_neg hc0,if_neg (fun h9=>h9 c2),if_pos (by rw [hm];exact c3)]
   rw [hE]
   clear c2 c3 hE hc0 HH HRf
   go_enter Tryz.func71,Tryz.ntmps71
   go_upto_region 1 with fail
   rw [←hW0]
   clear hW0
   go_wp2_with fail
   refine (HO.out _).mono ?_
   rintro e w2 ⟨b,rfl,hi2,hb2⟩
   have Hi:=hide (And.intro hi2 hb2)
   clear hi2 hb2
   go_wp2_with fail
   go_ret3
   exact ⟨T,S,.slice none 0 0,errV b,rfl,rfl,Hi.out.1,List.prefix_refl _,by omega,HM0.out.below Hi.out.2,(Grown.of_below (Hb0.out.trans (Hi.out.2.mono Hb0.out.size))).sb _ _⟩
 ·have e2:((bs (atF l 2).s).toList == ([112,117,98,108,105,99,107,101,121]:List UInt8))=false:=by rw [bs_toList,beq_eq_false_iff_ne];exact c2
  have hE:askA gr al lim sid s l=refuseA lim s:=by
   unfold askA
   rw [if_neg hc0,if_pos c2]
  rw [hE]
  have HR:=hide (HRf.out W0 Hb0.out)
  clear c2 hE hc0 HH HRf HO HKY HKN
  go_enter Tryz.func71,Tryz.ntmps71
  go_upto_region 1 with fail
  rw [←hW0]
  clear hW0
  go_wp2_with fail
  refine HR.out.mono ?_
  rintro e w3 ⟨er,rfl,hev,_,hM3,hG3⟩
  have Hf:=hide (And.intro hev (And.intro hM3 hG3))
  clear hev hM3 hG3
  generalize hz:bs (refuseA lim s).2.out=z
  have Hz:=hide hz
  clear hz
  go_wp2_with fail
  go_ret3
  have hz:=Hz.out
  subst hz
  exact ⟨T,S,.slice none 0 0,er,rfl,by rw [refuseA_ev];rfl,Hf.out.1,List.prefix_refl _,by omega,Hf.out.2.1,((Grown.of_below Hb0.out).sb _ _).trans Hf.out.2.2⟩
end
section
variable {w0 W W' : World} {B g lo hi bs_ bg : Nat} {A9 A8 : Option Addr} {c9 c8 : Nat} {gr : List (List UInt8 × Int)} {al : List (List UInt8)} {lim n : Int} {sid : Option Tm} {T T' : List Tm} {S S' : Nat → Prop} {s : SvS}
theorem asks_other (h:SrvM w0 B g lo hi bs_ bg A9 c9 gr A8 c8 al lim n sid T S s W) {l:List Fld} {nk ns:Int} (hf:(s.fl:Int)<lim) (hl:s.fl≤1000) (m6:l.length≠6) (m7:l.length≠7) :
  Calls Tryz.prog 71 #[.pointer (some ⟨bs_,0,none⟩),.agg (saidV l nk ns),.int .i64 ((l.length:Nat):Int)] W (KnwR w0 B g lo hi bs_ bg A9 c9 gr A8 c8 al lim n sid T S W 100 (atF l 1).s (askA gr al lim sid s l)):=by
 have hE:askA gr al lim sid s l=refuseA lim s:=by
  unfold askA
  rw [if_pos ⟨m6,m7⟩]
 have e6:(((l.length:Nat):Int) == 6)=false:=by rw [beq_eq_false_iff_ne];omega
 have e7:(((l.length:Nat):Int) == 7)=false:=by rw [beq_eq_false_iff_ne];omega
 rw [hE]
 clear hE m6 m7
 generalize ((l.length:Nat):Int)=m at e6 e7 ⊢
 obtain ⟨W0,hW0⟩:∃W0,W0=W.alloc (.cells #[.string (bs (atF l 0).s),.string (bs (atF l 1).s),.string (bs (atF l 2).s),.int .i64 (atF l 3).n,.string (bs (atF l 4).s),.int .i64 nk,.string (bs (atF l 5).s),.int .i64 ns] 142):=⟨_,rfl⟩
 have hb0:Below W.heap.size W W0:=by rw [hW0];exact bel_newF _
 have hX:Blk W0 W.heap.size 142 #[.string (bs (atF l 0).s),.string (bs (atF l 1).s),.string (bs (atF l 2).s),.int .i64 (atF l 3).n,.string (bs (atF l 4).s),.int .i64 nk,.string (bs (atF l 5).s),.int .i64 ns]:=by rw [hW0];exact Blk.new W _ _
 have hM0:=h.below hb0
 have x0:=hM0.sb.cell 0
 have x2:=hM0.sb.cell 2
 have r0:=hX.cell 0
 have r2:=hX.cell 2
 have r3:=hX.cell 3
 have r4:=hX.cell 4
 have r5:=hX.cell 5
 simp only [List.getElem?_toArray,List.getElem?_cons_zero,List.getElem?_cons_succ] at x0 x2 r0 r2 r3 r4 r5
 have HM0:=hide hM0
 have Hb0:=hide hb0
 have HR:=hide (refuse_any hM0 hf hl)
 clear h hM0 hb0 hX x0 x2 r0 r2 r3 r4 r5
 unfold saidV
 go_enter Tryz.func71,Tryz.ntmps71
 go_upto_region 1 with fail
 rw [←hW0]
 clear hW0
 go_wp2_with fail
 refine HR.out.mono ?_
 rintro e w3 ⟨er,rfl,hev,_,hM3,hG3⟩
 have Hf:=hide (And.intro hev (And.intro hM3 hG3))
 clear hev hM3 hG3
 generalize hz:bs (refuseA lim s).2.out=z
 have Hz:=hide hz
 clear hz
 go_wp2_with fail
 go_ret3
 have hz:=Hz.out
 subst hz
 exact ⟨T,S,.slice none 0 0,er,rfl,by rw [refuseA_ev];rfl,Hf.out.1,List.prefix_refl _,by omega,Hf.out.2.1,((Grown.of_below Hb0.out).sb _ _).trans Hf.out.2.2⟩
theorem asks_any (h:SrvM w0 B g lo hi bs_ bg A9 c9 gr A8 c8 al lim n sid T S s W) {l:List Fld} {nk ns:Int} (hk5:Idn T (ofT (atF l 5).s) nk) (hk6:Idn T (ofT (atF l 6).s) ns) (h0:(atF l 0).s.length≤40000) (h1:(atF l 1).s.length≤40000) (h4:(atF l 4).s.length≤40000) (h5:(atF l 5).s.length≤40000) (hT:T.length≤900000) (hf:(s.fl:Int)<lim) (hl:s.fl≤1000) (hgl:gr.length≤1000) (hal:al.length≤1000) :
  Calls Tryz.prog 71 #[.pointer (some ⟨bs_,0,none⟩),.agg (saidV l nk ns),.int .i64 ((l.length:Nat):Int)] W (KnwR w0 B g lo hi bs_ bg A9 c9 gr A8 c8 al lim n sid T S W 100 (atF l 1).s (askA gr al lim sid s l)):=by
 by_cases m6:l.length=6
 ·have e:((l.length:Nat):Int)=6:=by omega
  rw [e]
  exact asks_6 h hk5 hk6 h0 h1 h4 h5 hT hf hl hgl hal m6
 ·by_cases m7:l.length=7
  ·have e:((l.length:Nat):Int)=7:=by omega
   rw [e]
   exact asks_7 h hk5 hk6 h0 h1 h4 h5 hT hf hl hgl hal m7
  ·exact asks_other h hf hl m6 m7
end
section
variable {w0 W W' : World} {B g lo hi bs_ bg : Nat} {A9 A8 : Option Addr} {c9 c8 : Nat} {gr : List (List UInt8 × Int)} {al : List (List UInt8)} {lim n : Int} {sid : Option Tm} {T T' : List Tm} {S S' : Nat → Prop} {s : SvS}
theorem step_bad (h:SrvM w0 B g lo hi bs_ bg A9 c9 gr A8 c8 al lim n sid T S s W) {num:Nat} {A:Option Addr} {c:Nat} {l:List Fld} (hF:Flds W A l) (hl:l.length≤20) (h3:s.ph=0) (hs:(atF l 0).s≠userauthL) :
  Calls Tryz.prog 33 #[.pointer (some ⟨bs_,0,none⟩),.agg #[.int .i64 5,.slice A l.length c]] W (KnwR w0 B g lo hi bs_ bg A9 c9 gr A8 c8 al lim n sid T S W 15000 (atF l 1).s (failA s [serviceL] 13)):=by
 obtain ⟨W0,hW0⟩:∃W0,W0=W.alloc (.cells #[.int .i64 5,.slice A l.length c] 69):=⟨_,rfl⟩
 have hb0:Below W.heap.size W W0:=by rw [hW0];exact bel_newF _
 have hX:Blk W0 W.heap.size 69 #[.int .i64 5,.slice A l.length c]:=by rw [hW0];exact Blk.new W _ _
 have hM0:=h.below hb0
 have x3:=hM0.sb.cell 3
 have m0:=hX.cell 0
 have m1:=hX.cell 1
 simp only [List.getElem?_toArray,List.getElem?_cons_zero,List.getElem?_cons_succ] at x3 m0 m1
 have HM0:=hide hM0
 have Hb0:=hide hb0
 rw [show (Value.int .i64 ((s.ph:Nat):Int))=.int .i64 0 from by rw [h3];rfl] at x3
 have es:(!((bs (atF l 0).s).toList == ([115,115,104,45,117,115,101,114,97,117,116,104]:List UInt8)))=true:=by rw [Bool.not_eq_true',bs_toList,beq_eq_false_iff_ne];exact hs
 have HG:=hide (fun (V:World) (hb:Below W0.heap.size W0 V)=>(get_any (c:=c) (hF.below (Hb0.out.trans (hb.mono Hb0.out.size))) hl 5 0).mono fun e w' h9=>(show (∃A2 m2 c2,e=.returned (.agg #[.int .u8 (atF l 0).k,.int .i64 (atF l 0).n,.string (bs (atF l 0).s),.slice A2 m2 c2]))∧Below W0.heap.size W0 w' from by
  obtain ⟨A2,m2,c2,e1,e2⟩:=h9
  exact ⟨⟨A2,m2,c2,e1⟩,hb.trans (e2.mono hb.size)⟩))
 have HO:=hide (fun (V:World)=>fof_any ⟨#[115,101,114,118,105,99,101]⟩ 13 (by decide) V)
 clear h hM0 hb0 hX h3 hs
 go_enter Tryz.func33,Tryz.ntmps33
 go_upto_region 1 with fail
 rw [←hW0]
 clear hW0
 go_wp2_with fail
 refine (HG.out _ (by exact bel_by)).mono ?_
 rintro e w2 ⟨⟨A2,m2,c2,rfl⟩,hb2⟩
 have Hb2:=hide hb2
 clear HG
 go_wp2_with fail
 refine (HO.out _).mono ?_
 rintro e w3 ⟨b,rfl,hi3,hb3⟩
 have Hi:=hide (And.intro hi3 (hb2.trans (hb3.mono hb2.size)))
 clear hi3 hb3 hb2
 go_wp2_with fail
 go_ret3
 exact ⟨T,S,.slice none 0 0,errV b,rfl,rfl,Hi.out.1,List.prefix_refl _,by omega,HM0.out.below Hi.out.2,(Grown.of_below (Hb0.out.trans (Hi.out.2.mono Hb0.out.size))).sb _ _⟩
theorem step_good (h:SrvM w0 B g lo hi bs_ bg A9 c9 gr A8 c8 al lim n sid T S s W) {num:Nat} {A:Option Addr} {c:Nat} {l:List Fld} (hF:Flds W A l) (hl:l.length≤20) (h3:s.ph=0) (hs:(atF l 0).s=userauthL) :
  Calls Tryz.prog 33 #[.pointer (some ⟨bs_,0,none⟩),.agg #[.int .i64 5,.slice A l.length c]] W (KnwR w0 B g lo hi bs_ bg A9 c9 gr A8 c8 al lim n sid T S W 15000 (atF l 1).s ((⟨1,s.fl⟩,⟨acceptL,none,none⟩):SvS × OutA)):=by
 obtain ⟨W0,hW0⟩:∃W0,W0=W.alloc (.cells #[.int .i64 5,.slice A l.length c] 69):=⟨_,rfl⟩
 have hb0:Below W.heap.size W W0:=by rw [hW0];exact bel_newF _
 have hX:Blk W0 W.heap.size 69 #[.int .i64 5,.slice A l.length c]:=by rw [hW0];exact Blk.new W _ _
 have hM0:=h.below hb0
 have x3:=hM0.sb.cell 3
 have m0:=hX.cell 0
 have m1:=hX.cell 1
 simp only [List.getElem?_toArray,List.getElem?_cons_zero,List.getElem?_cons_succ] at x3 m0 m1
 have HM0:=hide hM0
 have Hb0:=hide hb0
 rw [show (Value.int .i64 ((s.ph:Nat):Int))=.int .i64 0 from by rw [h3];rfl] at x3
 have es:(!((bs (atF l 0).s).toList == ([115,115,104,45,117,115,101,114,97,117,116,104]:List UInt8)))=false:=by rw [bs_toList,hs];rfl
 have HG:=hide (fun (V:World) (hb:Below W0.heap.size W0 V)=>(get_any (c:=c) (hF.below (Hb0.out.trans (hb.mono Hb0.out.size))) hl 5 0).mono fun e w' h9=>(show (∃A2 m2 c2,e=.returned (.agg #[.int .u8 (atF l 0).k,.int .i64 (atF l 0).n,.string (bs (atF l 0).s),.slice A2 m2 c2]))∧Below W0.heap.size W0 w' from by
  obtain ⟨A2,m2,c2,e1,e2⟩:=h9
  exact ⟨⟨A2,m2,c2,e1⟩,hb.trans (e2.mono hb.size)⟩))
 clear h hM0 hb0 hX h3 hs
 go_enter Tryz.func33,Tryz.ntmps33
 go_upto_region 1 with fail
 rw [←hW0]
 clear hW0
 go_wp2_with fail
 refine (HG.out _ (by exact bel_by)).mono ?_
 rintro e w2 ⟨⟨A2,m2,c2,rfl⟩,hb2⟩
 clear HG
 have HM2:=hide (HM0.out.below hb2)
 have Hb2:=hide (Hb0.out.trans (hb2.mono Hb0.out.size))
 have hB3:=HM2.out.sb
 have c3:=hB3.cell 3
 have f3:=hB3.frozen 3
 simp only [List.getElem?_toArray,List.getElem?_cons_zero,List.getElem?_cons_succ] at c3
 obtain ⟨w4,hw4⟩:∃W4,W4=w2.setCell ⟨bs_,3,none⟩ (.int .i64 1):=⟨_,rfl⟩
 have k4:w2.grownBy w4 (some bs_):=by rw [hw4];exact only_setCell (only_refl w2 (some bs_)) (.inl rfl) _
 have hB4:Blk w4 bs_ 95 #[.pointer (some ⟨g,0,none⟩),.int .i64 n,.pointer (some ⟨bg,0,none⟩),.int .i64 1]:=by rw [hw4];have:=hB3.set_ 3 (.int .i64 1);simpa using this
 have HM4:=hide (HM2.out.setPh (ph:=1) k4 hB4)
 have HG4:=hide (((Grown.of_below Hb2.out).sb bs_ bg).trans (sb_1 (S:=S) (b2:=bg) k4))
 obtain ⟨w5,hw5⟩:∃W5,W5=w4.alloc (.cells #[.int .u8 115,.int .i64 0,.string ⟨#[115,115,104,45,117,115,101,114,97,117,116,104]⟩,.slice none 0 0] 75):=⟨_,rfl⟩
 have hb5:Below w4.heap.size w4 w5:=by rw [hw5];exact bel_newF _
 have hY:Blk w5 w4.heap.size 75 #[.int .u8 115,.int .i64 0,.string (bs userauthL),.slice none 0 0]:=by rw [hw5];exact Blk.new w4 _ _
 have HE:=hide (encode_anyM 6 (c:=1) (flds_one hY (by decide)) (fun x hx=>by
  simp only [List.mem_singleton] at hx
  subst hx
  exact ⟨by decide,by simp,by simp⟩) (by simp))
 have Hb5:=hide hb5
 clear hB3 hB4 k4 hb5 hY hb2
 go_upto_region 5 with fail
 rw [←hw4]
 clear hw4 c3 f3
 go_wp2_with fail
 rw [←hw5]
 clear hw5
 refine HE.out.mono ?_
 rintro e w6 ⟨hb6,⟨q,hq,rfl⟩ | ⟨b,ps,k,hk,rfl,_⟩⟩
 ·rw [enc_accept] at hq
  cases hq
  have Hb6:=hide (Hb5.out.trans (hb6.mono Hb5.out.size))
  clear hb6
  generalize hz:acceptL=z
  have Hz:=hide hz
  clear hz
  go_wp2_with fail
  go_ret3
  have hz:=Hz.out
  subst hz
  exact ⟨T,S,.slice none 0 0,.nilIface,rfl,rfl,rfl,List.prefix_refl _,by omega,HM4.out.below Hb6.out,HG4.out.trans ((Grown.of_below Hb6.out).sb _ _)⟩
 ·rw [enc_accept] at hk
  cases hk
theorem step_in (h:SrvM w0 B g lo hi bs_ bg A9 c9 gr A8 c8 al lim n sid T S s W) {num:Nat} {A:Option Addr} {c:Nat} {l:List Fld} (h3:s.ph=2) :
  Calls Tryz.prog 33 #[.pointer (some ⟨bs_,0,none⟩),.agg #[.int .i64 50,.slice A l.length c]] W (KnwR w0 B g lo hi bs_ bg A9 c9 gr A8 c8 al lim n sid T S W 15000 (atF l 1).s ((s,⟨[],none,none⟩):SvS × OutA)):=by
 obtain ⟨W0,hW0⟩:∃W0,W0=W.alloc (.cells #[.int .i64 50,.slice A l.length c] 69):=⟨_,rfl⟩
 have hb0:Below W.heap.size W W0:=by rw [hW0];exact bel_newF _
 have hX:Blk W0 W.heap.size 69 #[.int .i64 50,.slice A l.length c]:=by rw [hW0];exact Blk.new W _ _
 have hM0:=h.below hb0
 have x3:=hM0.sb.cell 3
 have m0:=hX.cell 0
 have m1:=hX.cell 1
 simp only [List.getElem?_toArray,List.getElem?_cons_zero,List.getElem?_cons_succ] at x3 m0 m1
 have HM0:=hide hM0
 have Hb0:=hide hb0
 rw [show (Value.int .i64 ((s.ph:Nat):Int))=.int .i64 2 from by rw [h3];rfl] at x3
 clear h hM0 hb0 hX h3
 go_enter Tryz.func33,Tryz.ntmps33
 go_upto_region 1 with fail
 rw [←hW0]
 clear hW0
 go_wp2_with fail
 go_ret3
 exact ⟨T,S,.slice none 0 0,.nilIface,rfl,rfl,rfl,List.prefix_refl _,by omega,HM0.out,(Grown.of_below Hb0.out).sb _ _⟩
theorem step_o5 (h:SrvM w0 B g lo hi bs_ bg A9 c9 gr A8 c8 al lim n sid T S s W) {num:Nat} {A:Option Addr} {c:Nat} {l:List Fld} (h3:s.ph≠0) :
  Calls Tryz.prog 33 #[.pointer (some ⟨bs_,0,none⟩),.agg #[.int .i64 5,.slice A l.length c]] W (KnwR w0 B g lo hi bs_ bg A9 c9 gr A8 c8 al lim n sid T S W 15000 (atF l 1).s (failA s [] 7)):=by
 obtain ⟨W0,hW0⟩:∃W0,W0=W.alloc (.cells #[.int .i64 5,.slice A l.length c] 69):=⟨_,rfl⟩
 have hb0:Below W.heap.size W W0:=by rw [hW0];exact bel_newF _
 have hX:Blk W0 W.heap.size 69 #[.int .i64 5,.slice A l.length c]:=by rw [hW0];exact Blk.new W _ _
 have hM0:=h.below hb0
 have x3:=hM0.sb.cell 3
 have m0:=hX.cell 0
 have m1:=hX.cell 1
 simp only [List.getElem?_toArray,List.getElem?_cons_zero,List.getElem?_cons_succ] at x3 m0 m1
 have HM0:=hide hM0
 have Hb0:=hide hb0
 have e3:(((s.ph:Nat):Int) == 0)=false:=by rw [beq_eq_false_iff_ne];omega
 clear h hM0 hb0 hX h3
 generalize ((s.ph:Nat):Int)=p at x3 e3
 go_enter Tryz.func33,Tryz.ntmps33
 go_upto_region 1 with fail
 rw [←hW0]
 clear hW0
 go_wp2_with fail
 go_ret3
 exact ⟨T,S,.slice none 0 0,.iface 42 (.int .i64 7),rfl,rfl,rfl,List.prefix_refl _,by omega,HM0.out,(Grown.of_below Hb0.out).sb _ _⟩
theorem step_o50 (h:SrvM w0 B g lo hi bs_ bg A9 c9 gr A8 c8 al lim n sid T S s W) {num:Nat} {A:Option Addr} {c:Nat} {l:List Fld} (h1:s.ph≠1) (h2:s.ph≠2) :
  Calls Tryz.prog 33 #[.pointer (some ⟨bs_,0,none⟩),.agg #[.int .i64 50,.slice A l.length c]] W (KnwR w0 B g lo hi bs_ bg A9 c9 gr A8 c8 al lim n sid T S W 15000 (atF l 1).s (failA s [] 7)):=by
 obtain ⟨W0,hW0⟩:∃W0,W0=W.alloc (.cells #[.int .i64 50,.slice A l.length c] 69):=⟨_,rfl⟩
 have hb0:Below W.heap.size W W0:=by rw [hW0];exact bel_newF _
 have hX:Blk W0 W.heap.size 69 #[.int .i64 50,.slice A l.length c]:=by rw [hW0];exact Blk.new W _ _
 have hM0:=h.below hb0
 have x3:=hM0.sb.cell 3
 have m0:=hX.cell 0
 have m1:=hX.cell 1
 simp only [List.getElem?_toArray,List.getElem?_cons_zero,List.getElem?_cons_succ] at x3 m0 m1
 have HM0:=hide hM0
 have Hb0:=hide hb0
 have e1:(((s.ph:Nat):Int) == 1)=false:=by rw [beq_eq_false_iff_ne];omega
 have e2:(((s.ph:Nat):Int) == 2)=false:=by rw [beq_eq_false_iff_ne];omega
 clear h hM0 hb0 hX h1 h2
 generalize ((s.ph:Nat):Int)=p at x3 e1 e2
 go_enter Tryz.func33,Tryz.ntmps33
 go_upto_region 1 with fail
 rw [←hW0]
 clear hW0
 go_wp2_with fail
 go_ret3
 exact ⟨T,S,.slice none 0 0,.iface 42 (.int .i64 7),rfl,rfl,rfl,List.prefix_refl _,by omega,HM0.out,(Grown.of_below Hb0.out).sb _ _⟩
theorem step_o (h:SrvM w0 B g lo hi bs_ bg A9 c9 gr A8 c8 al lim n sid T S s W) {num:Nat} {A:Option Addr} {c:Nat} {l:List Fld} (h1:num≠5) (h2:num≠50) :
  Calls Tryz.prog 33 #[.pointer (some ⟨bs_,0,none⟩),.agg #[.int .i64 ((num:Nat):Int),.slice A l.length c]] W (KnwR w0 B g lo hi bs_ bg A9 c9 gr A8 c8 al lim n sid T S W 15000 (atF l 1).s (failA s [] 7)):=by
 have e1:(((num:Nat):Int) == 5)=false:=by rw [beq_eq_false_iff_ne];omega
 have e2:(((num:Nat):Int) == 50)=false:=by rw [beq_eq_false_iff_ne];omega
 generalize ((num:Nat):Int)=m at e1 e2 ⊢
 obtain ⟨W0,hW0⟩:∃W0,W0=W.alloc (.cells #[.int .i64 m,.slice A l.length c] 69):=⟨_,rfl⟩
 have hb0:Below W.heap.size W W0:=by rw [hW0];exact bel_newF _
 have hX:Blk W0 W.heap.size 69 #[.int .i64 m,.slice A l.length c]:=by rw [hW0];exact Blk.new W _ _
 have hM0:=h.below hb0
 have x3:=hM0.sb.cell 3
 have m0:=hX.cell 0
 have m1:=hX.cell 1
 simp only [List.getElem?_toArray,List.getElem?_cons_zero,List.getElem?_cons_succ] at x3 m0 m1
 have HM0:=hide hM0
 have Hb0:=hide hb0
 clear h hM0 hb0 hX h1 h2
 go_enter Tryz.func33,Tryz.ntmps33
 go_upto_region 1 with fail
 rw [←hW0]
 clear hW0
 go_wp2_with fail
 go_ret3
 exact ⟨T,S,.slice none 0 0,.iface 42 (.int .i64 7),rfl,rfl,rfl,List.prefix_refl _,by omega,HM0.out,(Grown.of_below Hb0.out).sb _ _⟩
end
end Go.Proofs.YtkfnepnghnicoaaGreatDoor
