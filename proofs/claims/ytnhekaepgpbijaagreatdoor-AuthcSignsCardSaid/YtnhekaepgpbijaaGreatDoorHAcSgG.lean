/- Several of my texts in one: AcC, AcI, AcSg. -/
import Derived.Test.YtnhekaepgpbijaaGreatDoorHAcXG
import Derived.Test.YtnhekaepgpbijaaGreatDoorHAcBG
import Derived.Test.YtnhekaepgpbijaaGreatDoorHCfLcG
import Derived.Test.YtnhekaepgpbijaaGreatDoorHAuTkG
import Derived.Test.YtnhekaepgpbijaaGreatDoorHRdrBG
set_option linter.unusedVariables false
set_option linter.unusedSimpArgs false
set_option maxHeartbeats 40000000
set_option maxRecDepth 100000
namespace Go.Proofs.YtnhekaepgpbijaaGreatDoor
open Go.RowKit Go.ChangeShapes Go.WideShapes Go.Sort
section
variable {q : ClQ} {T T' : List Tm} {S S' : Nat → Prop} {s : CliS} {z : TkP} {W W' : World}
noncomputable def calC (q:ClQ) (s:CliS) (a:Bool × List UInt8):CliS × OutC:=if a.1=true then srtC s else tkC q.us q.al q.ky q.sid s a.2
theorem cstart_any (h:CliM q T S s z W):Calls Tryz.prog 26 #[.pointer (some ⟨q.b,0,none⟩)] W (SrtR q T S z W (srtC s)):=by
 by_cases hp:s.ph=0
 ·exact cstart_yes h hp
 ·exact cstart_no h hp
theorem srt_ev:(srtC s).2.ev=none:=by
 unfold srtC
 split <;> rfl
theorem call27_any (h:CliM q T S s z W) (a:Bool × List UInt8) (hpl:a.2.length≤3000) (hT:T.length≤690000) (ht:s.ph=2∨s.ph=3→1≤s.tried):Calls Tryz.prog 10 #[.pointer (some ⟨q.b,0,none⟩),.agg #[.bool a.1,.string (bs a.2)]] W (TakC q T S W (calC q s a)):=by
 obtain ⟨W0,hW0⟩:∃W0,W0=W.alloc (.cells #[.bool a.1,.string (bs a.2)] 52):=⟨_,rfl⟩
 have hb0:Below W.heap.size W W0:=by rw [hW0];exact bel_newF _
 have hX:Blk W0 W.heap.size 52 #[.bool a.1,.string (bs a.2)]:=by rw [hW0];exact Blk.new W _ _
 have x0:=hX.cell 0
 have x1:=hX.cell 1
 simp only [List.getElem?_toArray,List.getElem?_cons_zero,List.getElem?_cons_succ] at x0 x1
 have hM0:=h.below hb0
 have Hb0:=hide hb0
 obtain ⟨st,pl⟩:=a
 simp only at hpl x0 x1 hW0 ⊢
 cases st with
 | true =>
  have HS:=hide (cstart_any hM0)
  have E:=hide (show calC q s (true,pl)=srtC s from if_pos rfl)
  have hev:=srt_ev (s:=s)
  rw [E.out]
  unfold SrtR at HS
  generalize hr:srtC s=r at HS hev
  have Hr:=hide hr
  clear h hM0 hb0 hX hr
  go_enter Tryz.func10,Tryz.ntmps10
  go_upto_region 1 with fail
  rw [←hW0]
  clear hW0
  go_wp2_with fail
  refine HS.out.mono ?_
  rintro e w1 ⟨ov,er,rfl,hov,her,hM1,hG1⟩
  have Hf:=hide (And.intro hov (And.intro her (And.intro hM1 hG1)))
  clear hov her hM1 hG1 HS
  go_wp2_with fail
  go_ret3
  exact ⟨T,S,z,ov,.slice none 0 0,er,rfl,Hf.out.1,(by rw [hev];rfl),Hf.out.2.1,List.prefix_refl _,by omega,Hf.out.2.2.1,((Grown.of_below Hb0.out).sb _ _).trans Hf.out.2.2.2⟩
 | false =>
  have HS:=ctake_any hM0 (bs pl) hpl hT ht
  rw [bs_data] at HS
  have HS:=hide HS
  have E:=hide (show calC q s (false,pl)=tkC q.us q.al q.ky q.sid s pl from if_neg (fun h9=>by cases h9))
  rw [E.out]
  unfold TakC at HS
  generalize hr:tkC q.us q.al q.ky q.sid s pl=r at HS
  have Hr:=hide hr
  generalize bs pl=pb at x1 HS hW0 ⊢
  clear h hM0 hb0 hX hr
  go_enter Tryz.func10,Tryz.ntmps10
  go_upto_region 1 with fail
  rw [←hW0]
  clear hW0
  go_wp2_with fail
  refine HS.out.mono ?_
  rintro e w1 ⟨T1,S1,z1,ov,ev,er,rfl,hov,hev,her,hp1,hl1,hM1,hG1⟩
  have Hf:=hide (And.intro hov (And.intro hev (And.intro her (And.intro hp1 (And.intro hl1 (And.intro hM1 hG1))))))
  clear hov hev her hp1 hl1 hM1 hG1 HS
  go_wp2_with fail
  go_ret3
  exact ⟨T1,S1,z1,ov,ev,er,rfl,Hf.out.1,Hf.out.2.1,Hf.out.2.2.1,Hf.out.2.2.2.1,Hf.out.2.2.2.2.1,Hf.out.2.2.2.2.2.1,((Grown.of_below Hb0.out).sb _ _).trans Hf.out.2.2.2.2.2.2⟩
end
theorem es_awC:errC false [112,108,97,105,110] [] [97,110,110] plainLs 0 0 1 2048 3072 8192 [[115,115,104,45,101,100,50,53,53,49,57]] [] [8]=none:=by kernel_rfl
theorem fw_awC:fewC [112,108,97,105,110] [] [97,110,110] plainLs [[115,115,104,45,101,100,50,53,53,49,57]] [] [8]=true:=by kernel_rfl
section
variable {w : World}
theorem plain_c (hM:MethV w):Calls Tryz.prog 37 #[.bool false,.int .i64 1] w (fun e w'=>∃(c:CfP) (cv:Array Value),e=.returned (.agg cv)∧CvP c cv∧(∀V:World,w'.heap.size≤V.heap.size→(∀p:Addr,w.heap.size≤p.block→p.block<w'.heap.size→V.cell? p=w'.cell? p)→c.M V)∧c.err=none∧c.sv=false∧c.fw=true∧Below w.heap.size w w'):=by
 refine (cplain_cN hM 1).mono ?_
 rintro e w' ⟨B0,m0,d0,B1,m1,d1,B2,m2,d2,B3,m3,d3,B4,m4,d4,B5,m5,d5,B6,m6,d6,B7,m7,d7,B8,d8,B9,d9,rfl,_,hC,hb⟩
 obtain ⟨_,rfl,h⟩:=conf_box (⟨false,true,false,[112,108,97,105,110],[],[97,110,110],B0,B1,B2,B3,B4,B5,B6,B7,B8,none,B9,m0,m1,m2,m3,m4,m5,m6,m7,d0,d1,d2,d3,d4,d5,d6,d7,d8,0,d9,[[115,115,104,45,101,100,50,53,53,49,57]],0,0,1,2048,3072,8192,[],[8],plainLs⟩:CfP)
 exact ⟨_,_,rfl,h,hC,es_awC,rfl,fw_awC,hb⟩
theorem awake27_any (hT:Tab w) (hMx:MaxL w) (hMe:MethV w) (hWo:WordV w):Calls Tryz.prog 7 #[] w (fun e w'=>e=.returned (.bool true)∧Below w.heap.size w w'):=by
 have HN:=hide (new_any w)
 have HV:=hide (fun (V:World) (hb:Below w.heap.size w V)=>And.intro (hMe.below hb) (hWo.below hb))
 have HT:=hide (And.intro hT hMx)
 clear hT hMx hMe hWo
 go_enter Tryz.func7,Tryz.ntmps7
 go_wp2_with fail
 refine HN.out.mono ?_
 rintro e w1 ⟨g,S,rfl,hA,hb1⟩
 have HP:=hide (Pay.new HT.out.1 HT.out.2 (Below.refl _ _) hA hb1)
 have HPl:=hide (plain_c (HV.out _ hb1).1)
 clear hA hb1 HN HT
 go_upto_region 2 with fail
 refine wp_region_lit ?_
 refine wpList_valG (v:=.pointer (some ⟨g,0,none⟩)) (w':=w1) (by rfl) (by first | rfl | go_simp) ?_
 try simp only [Act.put,List.setIfInBounds_toArray,List.set_cons_zero,List.set_cons_succ]
 refine wpList_callG (f:=37) (by rfl) (by first | rfl | go_simp) HPl.out ?_
 rintro e w2 ⟨c,cv,rfl,hcv,hC2,hce,hcs,hcf,hb2⟩
 refine ⟨_,rfl,?_⟩
 try simp only [Act.put,List.setIfInBounds_toArray,List.set_cons_zero,List.set_cons_succ]
 refine wpList_valG (v:=.pointer (some ⟨g,0,none⟩)) (w':=w2) (by rfl) (by first | rfl | go_simp) ?_
 try simp only [Act.put,List.setIfInBounds_toArray,List.set_cons_zero,List.set_cons_succ]
 have HP2:=hide (HP.out.below hb2)
 have HD:=hide (data_base HP2.out (s:=⟨#[115]⟩) (by decide) (by simp) (Below.refl _ _))
 have HC3:=hide (fun (V:World) (S9:Nat→Prop) (hG:Grown S w2 S9 V)=>hC2 V hG.size (fun p h1 h2=>World.cell?_of_block (hG.block p.block h2 (fun h9=>by have h8:=HP.out.ar.sL _ h9;omega))))
 clear HP HPl hC2 hb2
 refine wpList_callG (f:=38) (by rfl) (by first | rfl | go_simp) HD.out ?_
 rintro e w3 ⟨T3,n3,S3,rfl,hi3,hp3,hl3,hP3,hG3⟩
 refine ⟨_,rfl,?_⟩
 try simp only [Act.put,List.setIfInBounds_toArray,List.set_cons_zero,List.set_cons_succ]
 have HA:=hide (cnew_ok c hcv (HV.out _ hP3.bel).1 (HV.out _ hP3.bel).2 (HC3.out _ _ hG3) hcf hP3 hi3 hce hcs (data_some (by decide)) (by show (1:Nat)≠0;decide) (fun t h9=>(by rw [data_some (by decide)] at h9;cases h9;decide)))
 refine wpList_callG (f:=36) (by rfl) (by first | rfl | go_simp) HA.out ?_
 rintro e w4 ⟨b,P,A8,c8,A10,c10,rfl,hM4,hb4⟩
 refine ⟨_,rfl,?_⟩
 try simp only [Act.put,List.setIfInBounds_toArray,List.set_cons_zero,List.set_cons_succ]
 have HS:=hide (cstart_any hM4)
 have Hb4:=hide (hP3.bel.trans (hb4.mono hP3.bel.size))
 clear hM4 hb4 HA HD HC3 HP2 hi3 hp3 hl3 hP3 hG3 HV
 unfold SrtR at HS
 go_wp2_with fail
 refine HS.out.mono ?_
 rintro e w5 ⟨ov,er,rfl,hov,her,hM5,hG5⟩
 obtain ⟨b5,rfl,hB5⟩:=hov.2 (by decide)
 have her':er=.nilIface:=her
 subst her'
 have x0:=hB5.cell 0
 rw [show bs (srtC ⟨0,false,[],0,[]⟩).2.out=(⟨#[5,0,0,0,12,115,115,104,45,117,115,101,114,97,117,116,104]⟩:ByteArray) from by kernel_rfl] at x0
 simp only [List.getElem?_toArray,List.getElem?_cons_zero] at x0
 have HI:=hide (cin_any hM5)
 have HB5:=hide hM5.pay.bel
 clear hov hB5 hM5 hG5 her HS
 go_wp2_with fail
 refine HI.out.mono ?_
 rintro e w6 ⟨rfl,hb6⟩
 go_wp2_with fail
 go_ret
 exact ⟨rfl,HB5.out.trans (hb6.mono HB5.out.size)⟩
end
theorem tr_step {k:Nat} {s s':CliS} (h:StpI k s s') (ht:s.ph=2∨s.ph=3→1≤s.tried):s'.ph=2∨s'.ph=3→1≤s'.tried:=by
 rintro (h9 | h9)
 ·rcases h.p2 h9 with h8 | ⟨h8,h7⟩
  ·omega
  ·have:=ht (.inl h8)
   omega
 ·obtain ⟨h8,h7⟩:=h.p3 h9
  have:=ht h8
  omega
theorem sg_cal {q:ClQ} {s:CliS} (hq:q.Ok) (hz:s.alg.length≤1000) (hs:fineO q.sid) (a:Bool × List UInt8):SgR q.us q.ky q.sid s (calC q s a):=by
 unfold calC
 split
 ·exact sg_srt
 ·exact sg_tak hq.us2 hq.aly hz hs _
theorem decS_len {p:List UInt8} {n:Nat} {l:List Fld} (h:decS p=.ok n l):p.length≤32768:=by
 cases p with
 | nil=>cases h
 | cons c r =>
  simp only [decS] at h
  split at h
  ·cases h
  ·omega
structure SgJ (k:Nat) (s:CliS) (g:Nat):Prop where
 i:SgI k s g
 t:s.ph=2∨s.ph=3→1≤s.tried
section
variable {w : World}
theorem authcSigns_any (hT:Tab w) (hMx:MaxL w) (hMe:MethV w) (hWo:WordV w) (c:CfP) (hc:c.W w) (sid:ByteArray) (hsd:sid.size≤maxLen) {A:Option Addr} {d:Nat} {l:List (Bool × List UInt8)} (hl:ActC w A l) (hll:l.length≤maxLen) (hlz:∀x∈l,x.2.length≤maxLen) :
  Calls Tryz.prog 3 #[.agg (c.cells++#[Value.string sid]),.slice A l.length d] w (fun e w'=>e=.returned (.bool true)∧Below w.heap.size w w'):=by
 obtain ⟨cv,hce,hcv⟩:=conf_box c
 have p16:cv[16]?=some (.string (bs c.us)):=by rw [←hce];rfl
 have p17:cv[17]?=some (.slice c.A10 c.ky.length c.c10):=by rw [←hce];rfl
 rw [hce]
 clear hce
 obtain ⟨W0,hW0⟩:∃W0,W0=w.alloc (.cells (cv++#[Value.string sid]) 32):=⟨_,rfl⟩
 have hb0:Below w.heap.size w W0:=by rw [hW0];exact bel_newF _
 have hX:StC W0 w.heap.size cv sid:=⟨by rw [hW0];exact Blk.new w _ _,hcv.len⟩
 have HF:=hide (few27_any c (hc.below hb0) hcv sid hsd (d:=d) (hl.below hb0) hll hlz)
 have HAw:=hide (fun (V:World) (hb:Below w.heap.size w V)=>awake27_any (hT.below hb) (hMx.below hb) (hMe.below hb) (hWo.below hb))
 have HV:=hide (fun (V:World) (hb:Below w.heap.size w V)=>And.intro (And.intro (hT.below hb) (hMx.below hb)) (And.intro (hMe.below hb) (And.intro (hWo.below hb) (And.intro (hc.below hb) (hl.below hb)))))
 have Hcv:=hide hcv
 have HX:=hide (And.intro hb0 hX)
 generalize hcx:cv++#[Value.string sid]=cx at hW0 HF
 clear hT hMx hMe hWo hc hl hcv hb0
 cases hf:fewA c sid l with
 | false =>
  rw [hf] at HF
  clear hf hX p16 p17
  go_enter Tryz.func3,Tryz.ntmps3
  go_upto_region 1 with fail
  rw [←hW0]
  clear hW0
  have hX:=HX.out.2
  refine wp_region_lit ?_
  refine wpList_load_stC (by rfl) (.tmp 2) rfl (by rfl) hX ?_
  rw [hcx]
  try simp only [Act.put,List.setIfInBounds_toArray,List.set_cons_zero,List.set_cons_succ]
  refine wpList_valG (v:=.slice A l.length d) (w':=W0) (by rfl) (by first | rfl | go_simp) ?_
  try simp only [Act.put,List.setIfInBounds_toArray,List.set_cons_zero,List.set_cons_succ]
  refine wpList_callG (f:=6) (by rfl) (by first | rfl | go_simp) HF.out ?_
  rintro e w1 ⟨rfl,hb1⟩
  refine ⟨_,rfl,?_⟩
  try simp only [Act.put,List.setIfInBounds_toArray,List.set_cons_zero,List.set_cons_succ]
  have Hb1:=hide (HX.out.1.trans (hb1.mono HX.out.1.size))
  clear hb1 hX HF HX hcx
  go_wp2_with fail
  refine (HAw.out _ Hb1.out).mono ?_
  rintro e w2 ⟨rfl,hb2⟩
  go_wp2_with fail
  go_ret
  exact ⟨rfl,Hb1.out.trans (hb2.mono Hb1.out.size)⟩
 | true =>
  rw [hf] at HF
  have hfw:l.length≤12∧c.fw=true∧sid.size≤300∧∀x∈l,x.2.length≤3000:=by
   unfold fewA at hf
   simp only [Bool.and_eq_true,decide_eq_true_eq] at hf
   exact ⟨hf.1.1.1,hf.1.1.2,hf.1.2,fun x hx=>by have:=List.all_eq_true.1 hf.2 x hx;simpa using this⟩
  clear hf hX
  go_enter Tryz.func3,Tryz.ntmps3
  go_upto_region 1 with fail
  rw [←hW0]
  clear hW0
  have hX:=HX.out.2
  refine wp_region_lit ?_
  refine wpList_load_stC (by rfl) (.tmp 2) rfl (by rfl) hX ?_
  rw [hcx]
  try simp only [Act.put,List.setIfInBounds_toArray,List.set_cons_zero,List.set_cons_succ]
  refine wpList_valG (v:=.slice A l.length d) (w':=W0) (by rfl) (by first | rfl | go_simp) ?_
  try simp only [Act.put,List.setIfInBounds_toArray,List.set_cons_zero,List.set_cons_succ]
  refine wpList_callG (f:=6) (by rfl) (by first | rfl | go_simp) HF.out ?_
  rintro e w1 ⟨rfl,hb1⟩
  refine ⟨_,rfl,?_⟩
  try simp only [Act.put,List.setIfInBounds_toArray,List.set_cons_zero,List.set_cons_succ]
  have hb01:=HX.out.1.trans (hb1.mono HX.out.1.size)
  have HX1:=hide (HX.out.2.below hb1)
  have hlt:w.heap.size<w1.heap.size:=HX1.out.blk.lt
  have HN:=hide (new_any w1)
  have Hb1:=hide hb01
  clear hb1 hb01 hX HF HX
  go_upto_region 4 with (first
   | (go_at_call 8;refine HN.out.mono ?_;rintro e w2 ⟨g,S,rfl,hA,hb2⟩)
   | fail)
  have HP:=hide (Pay.new (HV.out _ Hb1.out).1.1 (HV.out _ Hb1.out).1.2 (Below.refl _ _) hA hb2)
  have hX2:=HX1.out.below hb2
  have hb12:=Hb1.out.trans (hb2.mono Hb1.out.size)
  have HS:=hide (setnewC_any c Hcv.out (HV.out _ Hb1.out).2.1 (HV.out _ Hb1.out).2.2.1 ((HV.out _ Hb1.out).2.2.2.1.m hfw.2.1) hfw.2.1 (HV.out _ Hb1.out).2.2.2.1.u0 (HV.out _ Hb1.out).2.2.2.1.u1 (HV.out _ Hb1.out).2.2.2.1.u2 HP.out (by simp) sid hfw.2.2.1)
  have hltg:w.heap.size<w2.heap.size:=hX2.blk.lt
  clear hA hb2 HN
  refine wp_region_lit ?_
  refine wpList_load_stC (by rfl) (.tmp 2) rfl (by rfl) hX2 ?_
  rw [hcx]
  try simp only [Act.put,List.setIfInBounds_toArray,List.set_cons_zero,List.set_cons_succ]
  refine wpList_valG (v:=.pointer (some ⟨g,0,none⟩)) (w':=w2) (by rfl) (by first | rfl | go_simp) ?_
  try simp only [Act.put,List.setIfInBounds_toArray,List.set_cons_zero,List.set_cons_succ]
  rw [←hcx]
  refine wpList_callG (f:=9) (by rfl) (by first | rfl | go_simp) HS.out ?_
  rintro e w3 ⟨n,p,er,bq,y,T3,S3,rfl,hy,hR⟩
  refine ⟨_,rfl,?_⟩
  try simp only [Act.put,List.setIfInBounds_toArray,List.set_cons_zero,List.set_cons_succ]
  have HR:=hide hR
  clear hR hy HS hX2 hb12 hcx cx
  generalize cv++#[Value.string sid]=cy
  generalize errK (newEc c (sid.toList == ([]:List UInt8)))=kk
  rcases or_opt (newEc c (sid.toList == ([]:List UInt8))) with he | ⟨⟨ps,k⟩,he⟩
  ·have her:=HR.out.er
   rw [he] at her
   have her':er=.nilIface:=her
   subst her'
   obtain ⟨hce,hcs,hcn⟩:=newEc_n he
   obtain ⟨lo,b,P,A8,c8,A10,c10,hlo,hbq,rfl,hM3⟩:=HR.out.ok he
   obtain ⟨w4,hw4⟩:∃W4,W4=w3.alloc (.cells #[.int .i64 kk,.string y] 45):=⟨_,rfl⟩
   have hb4:Below w3.heap.size w3 w4:=by rw [hw4];exact bel_newF _
   have hM4:=hM3.below hb4
   have hl3:T3.length≤2:=by have:=HR.out.len;simpa using this
   have HM4:=hide hM4
   have HZ:=hide (CfP.ky_ok hce hcs)
   clear hM3 hb4 hM4 her hce hcs hcn HR he hlo hbq
   go_upto_region 5 with fail
   rw [←hw4]
   clear hw4
   go_wp2_with fail
   go_loopw [11,12] (fun vg vi wr=>∃(i gl:Nat) (T:List Tm) (S':Nat→Prop) (s:CliS) (z:TkP),vg=.int .i64 gl∧vi=.int .i64 i∧i≤l.length∧Hid (CliM ⟨w1,w1.heap.size,g,lo,b,P,A8,c8,c.al,A10,c10,c.ky,c.us,n,sidO sid⟩ T S' s z wr)∧Hid (SgJ c.ky.length s gl)∧T.length≤capA i) (fun _ vi _=>l.length - (intOf vi).toNat)
   case atStart=>exact ⟨0,0,T3,S3,_,_,rfl,rfl,Nat.zero_le _,HM4,hide ⟨⟨Nat.zero_le _,Nat.zero_le _,fun h9=>(by cases h9)⟩,fun h9=>(by rcases h9 with h9 | h9 <;> cases h9)⟩,by unfold capA;omega⟩
   case round =>
    obtain ⟨i,gl,T,S',s,z,rfl,rfl,hi',HM,HI,hcap⟩:=hrel
    have hcs:=capA_succ i
    have hcl:=capA_lim (i:=i) (by have:=hfw.1;omega)
    have hbr:=HM.out.pay.bel
    clear HM4 hl3
    by_cases hlt2:i<l.length
    ·have hii:(i:Int)<l.length:=by omega
     obtain ⟨ad,rfl,hab,hc1,hc2⟩:=(HV.out _ Hb1.out).2.2.2.2 i hlt2
     have hlzi:=hfw.2.2.2 l[i] (List.getElem_mem hlt2)
     generalize l[i]=m at hc1 hc2 hlzi
     have HC:=hide (call27_any HM.out m hlzi (by omega) HI.out.t)
     unfold TakC at HC
     have HG:=hide (sg_cal HM.out.ok HM.out.alz (show fineO (sidO sid) from sidO_fine hfw.2.2.1) m)
     have HIs:=hide (sg_step HI.out.i HG.out)
     have HTs:=hide (tr_step HG.out.1 HI.out.t)
     generalize calC ⟨w1,w1.heap.size,g,lo,b,P,A8,c8,c.al,A10,c10,c.ky,c.us,n,sidO sid⟩ s m=o at HC HIs HTs
     have hc1b:=(hbr.cell (by rw [block_of_add];exact hab)).trans hc1
     have hc2b:=(hbr.cell (p:=⟨(ad.add (i*2)).block,(ad.add (i*2)).off+1,none⟩) (by show (ad.add (i*2)).block<_;rw [block_of_add];exact hab)).trans hc2
     clear hab hc1 hc2 HG
     go_upto_region 12 with (first
      | (go_at_call 10;refine HC.out.mono ?_;rintro e w7 ⟨T7,S7,z7,ov,ev,er,rfl,hov,hev,her,hp7,hl7,hM7,hG7⟩)
      | fail)
     obtain ⟨Ab,N,rfl,hN1,hN0,hNb⟩:∃(Ab:Option Addr) (N:Nat),ov=.slice Ab N N∧N≤1∧(N=0→o.2.out=[])∧(N=1→o.2.out≠[]∧∃b,Ab=some ⟨b,0,none⟩∧Blk w7 b 9 #[.string (bs o.2.out)]):=by
      by_cases h9:o.2.out=[]
      ·exact ⟨none,0,hov.1 h9,by omega,fun _=>h9,fun h8=>(by cases h8)⟩
      ·obtain ⟨b,rfl,hB⟩:=hov.2 h9
       exact ⟨some ⟨b,0,none⟩,1,rfl,by omega,fun h8=>(by cases h8),fun _=>⟨h9,b,rfl,hB⟩⟩
     have HM7:=hide hM7
     have HN:=hide (And.intro hN0 hNb)
     have HE:=hide (And.intro hev her)
     have HS0:=hide (show N=0→SgJ c.ky.length o.1 gl from fun h9=>by
      rcases HIs.out with ⟨_,h8⟩ | ⟨h8,_⟩
      ·exact ⟨h8,HTs.out⟩
      ·obtain ⟨t,_,hd⟩:=h8.dec
       rw [hN0 h9] at hd
       cases hd)
     have hcap7:T7.length≤capA i+15000:=by omega
     clear hov hev her hp7 hl7 hM7 hG7 HM HC hbr hc1b hc2b hN0 hNb
     go_wp2_with fail
     go_loopw [11,16] (fun vg vk wr=>∃(k g2:Nat) (T2:List Tm) (S2:Nat→Prop),vg=.int .i64 g2∧vk=.int .i64 k∧k≤N∧(k=0→w7=wr∧gl=g2)∧Hid (CliM ⟨w1,w1.heap.size,g,lo,b,P,A8,c8,c.al,A10,c10,c.ky,c.us,n,sidO sid⟩ T2 S2 o.1 z7 wr)∧Hid (k=N→SgJ c.ky.length o.1 g2)∧T2.length≤capA (i+1)) (fun _ vk _=>N - (intOf vk).toNat)
     case atStart=>exact ⟨0,gl,T7,S7,rfl,rfl,Nat.zero_le _,fun _=>⟨rfl,rfl⟩,HM7,hide (fun h9=>HS0.out h9.symm),by omega⟩
     case round =>
      obtain ⟨k,g2,T2,S2,rfl,rfl,hkN,hk0,HM2,HJ2,hcap2⟩:=hrel
      by_cases hkl:k<N
      ·have hki:(k:Int)<N:=by omega
       obtain rfl:k=0:=by omega
       obtain rfl:N=1:=by omega
       obtain ⟨rfl,rfl⟩:=hk0 rfl
       obtain ⟨hne0,bo,rfl,hBo⟩:=HN.out.2 rfl
       have b0:=hBo.cell 0
       simp only [List.getElem?_toArray,List.getElem?_cons_zero] at b0
       obtain ⟨nn,ll,hdec,hcase⟩:∃(nn:Nat) (ll:List Fld),decS o.2.out=.ok nn ll∧(((nn≠50∨ll.length≠7)∧SgI c.ky.length o.1 gl)∨((nn=50∧ll.length=7)∧SgnP c.us c.ky (sidO sid) s o.1 o.2∧gl<o.1.tried∧SgI c.ky.length o.1 o.1.tried)):=by
        rcases HIs.out with ⟨h9 | ⟨n9,l9,h8,h7⟩,hI⟩ | ⟨hS,hlt,hI⟩
        ·exact absurd h9 hne0
        ·exact ⟨n9,l9,h8,.inl ⟨h7,hI⟩⟩
        ·obtain ⟨t,ht,hd⟩:=hS.dec
         exact ⟨50,_,hd,.inr ⟨⟨rfl,rfl⟩,hS,hlt,hI⟩⟩
       have HD:=hide (show Calls Tryz.prog 11 #[.string (bs o.2.out)] w7 (fun e w'=>Below w7.heap.size w7 w'∧∃A c,e=.returned (.tuple #[.agg #[.int .i64 (nn:Nat),.slice A ll.length c],.nilIface])∧FldsN w7.heap.size w' A ll) from
        (decode_anyN (bs o.2.out) (by rw [bs_size];have:=decS_len hdec;omega) HM7.out.pay.max.maxL).mono fun e w' h9=>by
         obtain ⟨hb9,⟨num,l',A,c,hd,rfl,hF⟩ | ⟨b,ps,k,hk,rfl,hi9⟩⟩:=h9
         ·rw [bs_data,hdec] at hd
          cases hd
          exact ⟨hb9,A,c,rfl,hF⟩
         ·rw [bs_data,hdec] at hk
          cases hk)
       have Hcase:=hide hcase
       have Hdec:=hide hdec
       have HBo:=hide hBo
       clear hcase hdec hBo hne0 hk0 HM2 HJ2 HN
       generalize bs o.2.out=xo at b0 HD HBo
       go_wp2_with fail
       refine HD.out.mono ?_
       rintro e w9 ⟨hb9,A5,c5,rfl,hF9⟩
       obtain ⟨w10,hw10⟩:∃W10,W10=w9.alloc (.cells #[.int .i64 (nn:Nat),.slice A5 ll.length c5] 55):=⟨_,rfl⟩
       have hb10:Below w9.heap.size w9 w10:=by rw [hw10];exact bel_newF _
       have hX10:Blk w10 w9.heap.size 55 #[.int .i64 (nn:Nat),.slice A5 ll.length c5]:=by rw [hw10];exact Blk.new w9 _ _
       have hb710:Below w7.heap.size w7 w10:=hb9.trans (hb10.mono hb9.size)
       have HF10:=hide (hF9.below hb10)
       have hw9:=hb9.size
       have HM10:=hide (HM7.out.below hb710)
       have m0:=hX10.cell 0
       have m1:=hX10.cell 1
       simp only [List.getElem?_toArray,List.getElem?_cons_succ,List.getElem?_cons_zero] at m0 m1
       have HX10:=hide hX10
       have Hb710:=hide hb710
       clear hb9 hF9 hb10 hX10 hb710 HD
       go_upto_region 16 with fail
       rw [←hw10]
       clear hw10
       rcases Hcase.out with ⟨hne,hSI⟩ | ⟨⟨rfl,hl7⟩,hSP,hlt,hSI⟩
       ·by_cases hn5:nn=50
        ·have e2:(((ll.length:Nat):Int) != 7)=true:=by rw [bne_iff_ne];have:=hne.resolve_left (fun h9=>h9 hn5);omega
         subst hn5
         go_wp2_with fail
         exact ⟨⟨1,gl,T7,S7,rfl,by go_num,Nat.le_refl _,fun h9=>(by cases h9),HM10,hide (fun _=>⟨hSI,HTs.out⟩),by omega⟩,by simp [intOf]⟩
        ·have e1:(((nn:Nat):Int) != 50)=true:=by rw [bne_iff_ne];omega
         go_wp2_with fail
         exact ⟨⟨1,gl,T7,S7,rfl,by go_num,Nat.le_refl _,fun h9=>(by cases h9),HM10,hide (fun _=>⟨hSI,HTs.out⟩),by omega⟩,by simp [intOf]⟩
       ·--SIGN
        rw [hl7] at m1
        obtain ⟨p,t,rfl,hp,hofp,hoft,hpl,htl,hck⟩:=sgn_facts hSP HM7.out.ok.us2 HM7.out.alz (sidO_fine hfw.2.2.1) (sidO_len hfw.2.2.1) HZ.out (by omega) hSI.lk Hdec.out
        have hev:=HE.out.1
        rw [hSP.ev] at hev
        obtain ⟨eb,rfl,hEv,hnE⟩:=hev
        have her:=HE.out.2
        rw [hSP.err] at her
        obtain rfl:er=.nilIface:=her
        obtain ⟨ad5,rfl,had5⟩:=fld_some HF10.out.flds (by rw [hl7];decide)
        have HEv:=hide (hEv.below Hb710.out hEv.lt)
        have Hck:=hide (And.intro hp hck)
        have HSP:=hide (And.intro hlt (And.intro hSI hnE))
        have HS7:=hide HM7.out.pay.ar.sL
        have HSz:=hide (And.intro hEv.lt Hb710.out.size)
        have HKF:=hide (fun (S':Nat→Prop) (W':World) (hG:Grown S7 w10 S' W')=>show (W'.cell? ⟨w9.heap.size,1,none⟩=some (.slice (some ad5) 7 c5)∧W'.cell? ⟨ad5.block,ad5.off+2,none⟩=some (.string (bs c.us))∧W'.cell? ⟨ad5.block,ad5.off+16+2,none⟩=some (.string (bs o.1.alg))∧W'.cell? ⟨ad5.block,ad5.off+20+2,none⟩=some (.string (bs (pubB (keyC c.ky (o.1.tried - 1)))))∧W'.cell? ⟨ad5.block,ad5.off+24+2,none⟩=some (.string (bs (sigB_ t)))) from by
         have hF:=flds_keepA HF10.out hG (fun k h9=>HS7.out k h9)
         have f0:=(fld_get hF (i:=0) (by rw [hl7];decide) rfl).2
         have f4:=(fld_get hF (i:=4) (by rw [hl7];decide) rfl).2
         have f5:=(fld_get hF (i:=5) (by rw [hl7];decide) rfl).2
         have f6:=(fld_get hF (i:=6) (by rw [hl7];decide) rfl).2
         simp only [Nat.reduceMul,Nat.zero_mul,Nat.add_zero] at f0 f4 f5 f6
         exact ⟨hG.outs.cell m1 (fun h9=>by have h8:=HS7.out w9.heap.size h9;omega),f0,f4,f5,f6⟩)
        have HO5:=hide (fun (V:World) (hb:Below w10.heap.size w10 V)=>fld_pay2 HM10.out.pay (s:=bs (pubB (keyC c.ky (o.1.tried - 1)))) (by rw [bs_size];omega) (by omega) V hb)
        have HO6:=hide (fun (T':List Tm) (S':Nat→Prop) (W':World) (hP:Pay w1 w1.heap.size g T' S' W') (hT:T'.length≤800000) (V:World) (hb:Below W'.heap.size W' V)=>fld_pay2 hP (s:=bs (sigB_ t)) (by rw [bs_size];omega) (by omega) V hb)
        have HCk:=hide (fun (T':List Tm) (S':Nat→Prop) (W':World) (n5 n6:Int) (hP:Pay w1 w1.heap.size g T' S' W') (hp0:T7 <+: T') (h5:Idn T' (some p) n5) (h6:Idn T' (some t) n6) (hT:T'.length≤800000) (V:World) (hb:Below W'.heap.size W' V)=>show Calls Tryz.prog 16 #[.pointer (some ⟨g,0,none⟩),.int .i64 n,.string (bs c.us),.string ⟨#[115,115,104,45,99,111,110,110,101,99,116,105,111,110]⟩,.string (bs o.1.alg),.int .i64 n5,.int .i64 n6] V (fun e w'=>e=.returned .nilIface∧∃T'' S'',T' <+: T''∧T''.length≤T'.length+11∧Pay w1 w1.heap.size g T'' S'' w'∧Grown S' W' S'' w') from
         (checkUser_any (hP.use.below hb) (HM10.out.id.pre hp0) h5 h6 (user:=bs c.us) (service:=bs connectL) (alg:=bs o.1.alg) (by rw [bs_size];have:c.us.length≤1000:=HM10.out.ok.us2;omega) (by decide) (by rw [bs_size];have:=HM10.out.alz;omega) (by omega)).mono fun e w' hC=>by
          obtain ⟨T'',S'',v,e1,e2,e3,e4,e5,e6⟩:=hC
          obtain rfl:=errIs_no e6 Hck.out.2
          exact ⟨e1,T'',S'',e2,e3,(hP.below hb).grown e5 e4 (by omega),(Grown.of_below (S:=S') hb).trans e5⟩)
        have HPub:=hide (fun (T1 T':List Tm) (S':Nat→Prop) (W':World) (n0 n5:Int) (hP:Pay w1 w1.heap.size g T' S' W') (hk:Idn T' (tKey (keyC c.ky (o.1.tried - 1))) n0) (hp5:T1 <+: T') (h5:Idn T1 (some p) n5) (hT:T'.length≤800000) (V:World) (hb:Below W'.heap.size W' V)=>show Calls Tryz.prog 14 #[.pointer (some ⟨g,0,none⟩),.int .i64 n0] V (fun e w'=>e=.returned (.int .i64 n5)∧∃T'' S'',T' <+: T''∧T''.length≤T'.length+1∧Pay w1 w1.heap.size g T'' S'' w'∧Grown S' W' S'' w') from
         (pub_pay hP hk (by omega) V hb).mono fun e w' hd=>by
          obtain ⟨T'',n',S'',e1,e2,e3,e4,e5,e6⟩:=hd
          rw [Hck.out.1] at e2
          obtain rfl:=(Idn.eq_iff e5.ar.ok e2 ((h5.pre hp5).pre e3)).2 rfl
          exact ⟨e1,T'',S'',e3,e4,e5,e6⟩)
        have HKE:=hide (fun (S':Nat→Prop) (W':World) (hG:Grown S7 w10 S' W')=>show (W'.cell? ⟨eb,0,none⟩=some (.int .i64 3)∧W'.cell? ⟨eb,3,none⟩=some (.int .i64 (keyC c.ky (o.1.tried - 1)))∧W'.cell? ⟨eb,6,none⟩=some (.string (bs o.1.alg))) from by
         have hB:=hG.outs.blk HEv.out HSP.out.2.2
         have b0:=hB.cell 0
         have b3:=hB.cell 3
         have b6:=hB.cell 6
         simp only [evK,List.getElem?_toArray,List.getElem?_cons_succ,List.getElem?_cons_zero] at b0 b3 b6
         exact ⟨b0,b3,b6⟩)
        have HX6:=hide (fun (V:World) (hb:Below w1.heap.size w1 V)=>show V.cell? ⟨w.heap.size,16,none⟩=some (.string (bs c.us)) from (HX1.out.below hb).at_ p16)
        rw [bs_data,hofp,bs_size] at HO5
        simp only [bs_data,hoft,bs_size] at HO6
        obtain ⟨m1,f0,f4,f5,f6⟩:=HKF.out _ _ (Grown.of_below (S:=S7) (Below.refl w10.heap.size w10))
        have Htl:=hide (And.intro htl hpl)
        generalize (sigB_ t).length=zl at HO6 htl
        generalize (pubB (keyC c.ky (o.1.tried - 1))).length=pz at HO5 hpl
        generalize bs (sigB_ t)=u6 at f6 HO6 HKF
        generalize bs (pubB (keyC c.ky (o.1.tried - 1)))=u5 at f5 HO5 HKF
        generalize bs o.1.alg=u4 at f4 HEv HKF HKE HCk
        generalize bs c.us=u0 at f0 HEv HKF HCk HX6
        go_upto_region 17 with fail
        go_region_held3 (fun V=>V.cell? ⟨w9.heap.size,1,none⟩=some (.slice (some ad5) 7 c5)∧V.cell? ⟨ad5.block,ad5.off+20+2,none⟩=some (.string u5)∧V.cell? ⟨ad5.block,ad5.off+24+2,none⟩=some (.string u6))
         (exact ⟨m1,f5,f6⟩)
         (first
          | (go_at_call 12;(with_reducible refine (HO5.out _ ?hb).mono ?hm);(case hb=>exact (by exact bel_by));rintro e w14 ⟨T14,n14,S14,rfl,hi14,hp14,hl14,hP14,hG14⟩;have hh:=HKF.out _ _ hG14;replace m1:=hh.1;replace f5:=hh.2.2.2.1;replace f6:=hh.2.2.2.2;clear hh;have HO6b:=hide (HO6.out _ _ _ hP14 (by omega)))
          | (go_at_call 12;refine (HO6b.out _ (by exact bel_by)).mono ?_;rintro e w15 ⟨T15,n15,S15,rfl,hi15,hp15,hl15,hP15,hG15⟩;have hh:=HKF.out _ _ (hG14.trans hG15);replace m1:=hh.1;replace f5:=hh.2.2.2.1;replace f6:=hh.2.2.2.2;clear hh)
          | fail)
        have hGk:=hG14.trans hG15
        have hp7:=hp14.trans hp15
        have HM15:=hide (HM10.out.grown hGk hP15 hp7)
        have hbw15:=HM15.out.pay.bel
        obtain ⟨k,hk⟩:∃k,o.1.tried=k+1:=⟨o.1.tried - 1,by omega⟩
        have hkl2:k<c.ky.length:=by have:=HSP.out.2.1.lk;omega
        have em:((o.1.tried:Nat):Int)=(k:Int)+1:=by omega
        have hw:IntKind.i64.wrap ((k:Int)+1 - 1)=(k:Int):=by rw [IntKind.wrap_i64];have:c.ky.length≤1000:=HM15.out.ok.ky2;omega
        have hw2:IntKind.i64.wrap (k:Int)=(k:Int):=by rw [IntKind.wrap_i64];have:c.ky.length≤1000:=HM15.out.ok.ky2;omega
        have hkI:(k:Int)<c.ky.length:=by omega
        have hkI0:(0:Int)≤k:=by omega
        have e1:decide ((k:Int)+1≤(gl:Int))=false:=by rw [decide_eq_false_iff_not];have:=HSP.out.1;omega
        have e2:decide (((c.ky.length:Nat):Int)<(k:Int)+1)=false:=by rw [decide_eq_false_iff_not];omega
        have hbX:=Hb1.out.trans (hbw15.mono Hb1.out.size)
        obtain ⟨ak,hak,hakb,ck⟩:=(HV.out _ hbX).2.2.2.1.cw.hky k hkl2
        have x17:=(HX1.out.below hbw15).at_ p17
        rw [hak] at x17
        have hK:c.ky[k]=keyC c.ky (o.1.tried - 1):=by unfold keyC;rw [hk,Nat.add_sub_cancel,List.getElem?_eq_getElem hkl2];rfl
        rw [hK] at ck
        have HTr:=hide (fun (V:World) (hb:Below w15.heap.size w15 V)=>show Calls Tryz.prog 13 #[.pointer (some ⟨b,0,none⟩)] V (fun e w'=>e=.returned (.int .i64 ((k:Int)+1))∧Below V.heap.size V w') from by have h9:=ctried_any (HM15.out.below hb);rw [em] at h9;exact h9)
        have HKey:=hide (fun (V:World) (hb:Below w15.heap.size w15 V)=>key_pay hP15 (keyC c.ky (o.1.tried - 1)) (by omega) V hb)
        have HP7:=hide hp7
        have HGk:=hide hGk
        have Hi5:=hide (And.intro hi14 (And.intro hp15 hi15))
        have HPb:=hide (fun (T':List Tm) (S':Nat→Prop) (W':World) (n0:Int) (hP:Pay w1 w1.heap.size g T' S' W') (hp:T15 <+: T') (hk:Idn T' (tKey (keyC c.ky (o.1.tried - 1))) n0) (hT:T'.length≤800000) (V:World) (hb:Below W'.heap.size W' V)=>HPub.out _ T' S' W' n0 n14 hP hk (Hi5.out.2.1.trans hp) Hi5.out.1 hT V hb)
        have HCb:=hide (fun (T':List Tm) (S':Nat→Prop) (W':World) (hP:Pay w1 w1.heap.size g T' S' W') (hp:T15 <+: T') (hT:T'.length≤800000) (V:World) (hb:Below W'.heap.size W' V)=>HCk.out T' S' W' n14 n15 hP (HP7.out.trans hp) (Hi5.out.1.pre (Hi5.out.2.1.trans hp)) (Hi5.out.2.2.pre hp) hT V hb)
        obtain ⟨e0,e3,e6⟩:=HKE.out _ _ hGk
        have hh:=HKF.out _ _ hGk
        replace m1:=hh.1
        replace f0:=hh.2.1
        replace f4:=hh.2.2.1
        clear hh
        have x16:=HX6.out _ hbw15
        clear HPub HCk HO5 HO6 HO6b hbX hK hk f5 f6 hG14 hG15 hP14 hp14 hp15 hi14 hi15 hGk hp7
        generalize keyC c.ky (o.1.tried - 1)=who at HEv HKE HKey HPb e3 ck
        have Hend:=hide (And.intro em HM15)
        have x17q:=fun dd oo=>cell_regrown (v:=.slice (some ak) c.ky.length c.c10) x17 dd oo
        have e0q:=fun dd oo=>cell_regrown (v:=.int .i64 3) e0 dd oo
        have G1:=hide (fun dd oo=>Calls.regrown_of (HTr.out _ (below_regrown w15 dd oo)))
        go_upto_region 18 with fail
        refine wp_region_quiet_below (by kernel_rfl) (by kernel_rfl) ?_
        repeat (first | go_big_quiet_skip | quiet_step ((go_at_call 13;with_reducible exact G1.out _ _)))
        refine wpQuiet_nil ?_
        intro _ hwq
        obtain ⟨⟨dq,osq⟩,hwqq⟩:=hwq
        subst hwqq
        have hbq:=below_regrown w15 dq osq
        generalize grow (redrawn w15 dq) osq=wq at hbq ⊢
        clear x17q e0q G1
        have x17:=cellB hbq x17
        have ck:=cellB hbq ck
        have x17q:=fun dd oo=>cell_regrown (v:=.slice (some ak) c.ky.length c.c10) x17 dd oo
        have ckq:=fun dd oo=>cell_regrown (v:=.int .i64 who) ck dd oo
        have G1:=hide (fun dd oo=>Calls.regrown_of (HTr.out _ (hbq.trans ((below_regrown wq dd oo).mono hbq.size))))
        go_upto_region 20 with fail
        refine wp_region_quiet_below (by kernel_rfl) (by kernel_rfl) ?_
        repeat (first | go_big_quiet_skip | quiet_step ((go_at_call 13;with_reducible exact G1.out _ _)))
        refine wpQuiet_nil ?_
        intro _ hwq
        obtain ⟨⟨dr,osr⟩,hwqq⟩:=hwq
        subst hwqq
        have hbr2:=hbq.trans ((below_regrown wq dr osr).mono hbq.size)
        generalize grow (redrawn wq dr) osr=wr2 at hbr2 ⊢
        clear x17q ckq G1 x17 ck hbq
        replace m1:=cellB hbr2 m1
        replace f0:=cellB hbr2 f0
        replace f4:=cellB hbr2 f4
        replace e3:=cellB hbr2 e3
        replace e6:=cellB hbr2 e6
        replace x16:=cellB hbr2 x16
        go_upto_region 21 with fail
        go_region_held3 (fun V=>V.cell? ⟨w9.heap.size,1,none⟩=some (.slice (some ad5) 7 c5)∧V.cell? ⟨ad5.block,ad5.off+2,none⟩=some (.string u0)∧V.cell? ⟨ad5.block,ad5.off+16+2,none⟩=some (.string u4)∧V.cell? ⟨eb,3,none⟩=some (.int .i64 who)∧V.cell? ⟨eb,6,none⟩=some (.string u4)∧V.cell? ⟨w.heap.size,16,none⟩=some (.string u0))
         (exact ⟨m1,f0,f4,e3,e6,x16⟩)
         (first
          | (go_at_call 15;(with_reducible refine (HKey.out _ ?hbK).mono ?hmK);(case hbK=>(first | exact hbr2.drew | exact (by exact bel_by)));rintro e w16 ⟨T16,n16,S16,rfl,hi16,hp16,hl16,hP16,hG16⟩;have hh:=HKF.out _ _ (HGk.out.trans hG16);replace m1:=hh.1;replace f0:=hh.2.1;replace f4:=hh.2.2.1;clear hh;have hh:=HKE.out _ _ (HGk.out.trans hG16);replace e3:=hh.2.1;replace e6:=hh.2.2;clear hh;replace x16:=HX6.out _ hP16.bel;have HPb2:=hide (HPb.out _ _ _ _ hP16 hp16 hi16 (by omega)))
          | (go_at_call 14;refine (HPb2.out _ (by exact bel_by)).mono ?_;rintro e w17 ⟨rfl,T17,S17,hp17,hl17,hP17,hG17⟩;have hh:=HKF.out _ _ ((HGk.out.trans hG16).trans hG17);replace m1:=hh.1;replace f0:=hh.2.1;replace f4:=hh.2.2.1;clear hh;have hh:=HKE.out _ _ ((HGk.out.trans hG16).trans hG17);replace e3:=hh.2.1;replace e6:=hh.2.2;clear hh;replace x16:=HX6.out _ hP17.bel;have HCb2:=hide (HCb.out _ _ _ hP17 (hp16.trans hp17) (by omega)))
          | (go_at_call 16;refine (HCb2.out _ (by exact bel_by)).mono ?_;rintro e w18 ⟨rfl,T18,S18,hp18,hl18,hP18,hG18⟩;have hh:=HKF.out _ _ (((HGk.out.trans hG16).trans hG17).trans hG18);replace m1:=hh.1;replace f0:=hh.2.1;replace f4:=hh.2.2.1;clear hh;have hh:=HKE.out _ _ (((HGk.out.trans hG16).trans hG17).trans hG18);replace e3:=hh.2.1;replace e6:=hh.2.2;clear hh;replace x16:=HX6.out _ hP18.bel)
          | fail)
        have HM18:=hide (Hend.out.2.out.grown (hG16.trans (hG17.trans hG18)) hP18 (hp16.trans (hp17.trans hp18)))
        have HTr2:=hide (show Calls Tryz.prog 13 #[.pointer (some ⟨b,0,none⟩)] w18 (fun e w'=>e=.returned (.int .i64 ((k:Int)+1))∧Below w18.heap.size w18 w') from by have h9:=ctried_any HM18.out;rw [Hend.out.1] at h9;exact h9)
        have hcap8:T18.length≤capA (i+1):=by omega
        clear hp16 hl16 hP16 hG16 hp17 hl17 hP17 hG17 hp18 hl18 hP18 hG18 hi16 m1 f0 f4 e3 e6 x16 HPb2 HCb2
        go_wp2_with (first | (go_at_call 13;refine HTr2.out.mono ?_;rintro e w19 ⟨rfl,hb19⟩) | fail)
        exact ⟨⟨1,o.1.tried,T18,S18,(by rw [Hend.out.1]),by go_num,Nat.le_refl _,fun h9=>(by cases h9),hide (HM18.out.below hb19),hide (fun _=>⟨HSP.out.2.1,HTs.out⟩),hcap8⟩,by simp [intOf]⟩
      ·obtain rfl:k=N:=by omega
       have hki:¬ (k:Int)<k:=by omega
       clear hk0 HS0 HN HE HM7 HIs HTs
       go_wp2_with fail
       exact ⟨⟨i+1,g2,T2,S2,o.1,z7,rfl,by go_num,by omega,HM2,hide (HJ2.out rfl),hcap2⟩,by simp [intOf];omega⟩
    ·obtain rfl:i=l.length:=by omega
     have hii:¬ (l.length:Int)<l.length:=by omega
     have hbw:=Hb1.out.trans (hbr.mono Hb1.out.size)
     have hX:=HX1.out.below hbr
     have x17:=hX.at_ p17
     have x17q:=fun dd oo=>cell_regrown (v:=.slice c.A10 c.ky.length c.c10) x17 dd oo
     have G1:=hide (fun dd oo=>Calls.regrown_of (ctried_any (HM.out.below (below_regrown wr dd oo))))
     have G2:=hide (fun dd oo=>Calls.regrown_of (HAw.out _ (hbw.trans ((below_regrown wr dd oo).mono hbw.size))))
     have e1:decide ((gl:Int)≤(s.tried:Nat))=true:=by rw [decide_eq_true_eq];have:=HI.out.i.le;omega
     have e2:decide (((s.tried:Nat):Int)≤(c.ky.length:Nat))=true:=by rw [decide_eq_true_eq];have:=HI.out.i.lk;omega
     generalize ((s.tried:Nat):Int)=tr at G1 e1 e2
     clear HM hX x17 HI
     go_upto_region 24 with fail
     refine wp_region_quiet_below (by kernel_rfl) (by kernel_rfl) ?_
     repeat (first | go_big_quiet_skip | quiet_step ((first | (go_at_call 13;with_reducible exact G1.out _ _) | (go_at_call 7;with_reducible exact G2.out _ _) | fail)))
     refine wpQuiet_nil ?_
     intro _ hwq
     obtain ⟨⟨dq,osq⟩,hwqq⟩:=hwq
     subst hwqq
     have hbq:=below_regrown wr dq osq
     generalize grow (redrawn wr dq) osq=wq at hbq ⊢
     clear x17q G1 G2
     go_wp2_with fail
     go_ret
     exact ⟨rfl,hbw.trans (hbq.mono hbw.size)⟩
  ·have her:=HR.out.er
   rw [he] at her
   have hpn:=HR.out.no (by rw [he];simp)
   subst hpn
   obtain ⟨te,ue,rfl⟩:=IsErr.shape (show IsErr w3 er ps k from her)
   have hbw:=Hb1.out.trans (HR.out.pay.bel.mono Hb1.out.size)
   clear her HR he
   obtain ⟨w4,hw4⟩:∃W4,W4=w3.alloc (.cells #[.int .i64 kk,.string y] 45):=⟨_,rfl⟩
   have hb4:Below w3.heap.size w3 w4:=by rw [hw4];exact bel_newF _
   have hbw4:=hbw.trans (hb4.mono hbw.size)
   clear hb4
   go_upto_region 5 with fail
   rw [←hw4]
   clear hw4
   go_wp2_with fail
   refine (HAw.out _ hbw4).mono ?_
   rintro e w6 ⟨rfl,hb6⟩
   go_wp2_with fail
   go_ret
   exact ⟨by simp,hbw4.trans (hb6.mono hbw4.size)⟩
end
end Go.Proofs.YtnhekaepgpbijaaGreatDoor
