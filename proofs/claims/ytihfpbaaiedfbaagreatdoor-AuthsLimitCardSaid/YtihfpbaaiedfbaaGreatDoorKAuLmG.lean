/-
  Several of my texts in one: AuAw, AuLm.
-/
import Derived.Test.YtihfpbaaiedfbaaGreatDoorKAuZG
import Derived.Test.YtihfpbaaiedfbaaGreatDoorKAuLtG
import Derived.Test.YtihfpbaaiedfbaaGreatDoorKAuKG
import Derived.Test.YtihfpbaaiedfbaaGreatDoorKMkrG
set_option linter.unusedVariables false
set_option linter.unusedSimpArgs false
set_option maxHeartbeats 40000000
set_option maxRecDepth 100000
namespace Go.Proofs.YtihfpbaaiedfbaaGreatDoor
open Go.RowKit Go.ChangeShapes Go.WideShapes Go.Sort
theorem step_callA {P:Program} {Q:Exit→Act→World→Prop} {ops:Array Oper} {o:Oper} {a:Act} {w:World} {args:Array Value} {f:FuncId} {K:Act→World→Prop} {F:Prop} (hw:Region.wanted o (yielded ops a.tmps)=true)
  (hr:(execOp a.eval o).run P w=.ok (.enter f args) w) {post:Ending→World→Prop} (hc:Calls P f args w post) (h:∀e w',post e w'→∃r,e=.returned r∧K (a.put o.dst r) w'):if Region.wanted o (yielded ops a.tmps)=true then Oper.wp P o a w K Q else F:=by
 rw [if_pos hw]
 unfold Oper.wp
 rw [hr,Oper.upon_enter]
 refine hc.mono fun e w' hp=>?_
 obtain ⟨r,rfl,hk⟩:=h e w' hp
 exact hk
theorem load_confA {w:World} {x:Operand} (o:Oper) (ho:o.op=.load 30 x) (ρ:Operand→Value) {b:Nat} (hx:ρ x=.pointer (some ⟨b,0,none⟩)) {cv:Array Value} (hX:Blk w b 30 cv) (hl:cv.toList.length=23) :
  (execOp ρ o).run Tryz.prog w=.ok (.value (.agg cv)) w:=by
 unfold execOp
 have key:=run_loadAt_mid (P:=Tryz.prog) w b 0 30 cv.toList _ (rangeC (by rw [Array.toArray_toList];exact hX)) Tryz.underlying30 rfl (by rw [hl];exact infoConf)
 rw [Array.toArray_toList] at key
 simp only [ho,hx]
 simp [Sem.run_bind,key]
theorem es_aw:inC (fstE [unl (verL [112,108,97,105,110] [] != []) [118,101,114,115,105,111,110] 1,prR (prW plainLs),unl (princL 1) [111,119,110] 5,denyR (denyE [([97,110,110],8)] [[115,115,104,45,101,100,50,53,53,49,57]] 1)])=none:=by kernel_rfl
section
variable {w : World}
theorem plain_one (hM:MethV w):Calls Tryz.prog 25 #[.bool true,.int .i64 1] w (fun e w'=>∃(c:CfP) (cv:Array Value),e=.returned (.agg cv)∧cv.toList.length=23∧cv.all (·.oneCell')=true∧CvP c (cv.setIfInBounds 14 (.int .i64 1))∧(∀V:World,w'.heap.size≤V.heap.size→(∀p:Addr,w.heap.size≤p.block→p.block<w'.heap.size→V.cell? p=w'.cell? p)→c.M V)∧c.err=none∧c.sv=true∧c.lim=1∧c.gr.length≤1000∧c.al.length≤1000∧Below w.heap.size w w'):=by
 refine (cplain_sN hM 1).mono ?_
 rintro e w' ⟨B0,m0,d0,B1,m1,d1,B2,m2,d2,B3,m3,d3,B4,m4,d4,B5,m5,d5,B6,m6,d6,B7,m7,d7,B8,d8,B9,d9,rfl,_,hC,hb⟩
 obtain ⟨_,rfl,h⟩:=conf_box (⟨true,false,false,[112,108,97,105,110],[],[],B0,B1,B2,B3,B4,B5,B6,B7,B8,B9,none,m0,m1,m2,m3,m4,m5,m6,m7,d0,d1,d2,d3,d4,d5,d6,d7,d8,d9,0,[[115,115,104,45,101,100,50,53,53,49,57]],1,1,0,0,0,0,[([97,110,110],8)],[],plainLs⟩:CfP)
 exact ⟨_,#[.bool true,.string ⟨#[112,108,97,105,110]⟩,.string ⟨#[]⟩,.slice B0 m0 d0,.slice B1 m1 d1,.slice B2 m2 d2,.slice B3 m3 d3,.slice B4 m4 d4,.slice B5 m5 d5,.slice B6 m6 d6,.slice B7 m7 d7,.slice B8 1 d8,.int .i64 1,.slice B9 1 d9,.int .i64 3,.int .i64 0,.string ⟨#[]⟩,.slice none 0 0,.bool false,.bool false,.int .u32 0,.int .u32 0,.int .u32 0],rfl,rfl,by simp [Value.oneCell'],h,hC,es_aw,rfl,rfl,(show (1:Nat)≤1000 by decide),(show (1:Nat)≤1000 by decide),hb⟩
theorem awake28_any (hT:Tab w) (hMx:MaxL w) (hMe:MethV w) (hWo:WordV w) (hH:Hand w):Calls Tryz.prog 7 #[] w (fun e w'=>e=.returned (.bool true)∧Below w.heap.size w w'):=by
 have HN:=hide (new_any w)
 have HV:=hide (fun (V:World) (hb:Below w.heap.size w V)=>And.intro (hMe.below hb) (And.intro (hWo.below hb) (hH.below hb)))
 have HT:=hide (And.intro hT hMx)
 clear hT hMx hMe hWo hH
 go_enter Tryz.func7,Tryz.ntmps7
 go_wp2_with fail
 refine HN.out.mono ?_
 rintro e w1 ⟨g,S,rfl,hA,hb1⟩
 have HP:=hide (Pay.new HT.out.1 HT.out.2 (Below.refl _ _) hA hb1)
 have HPl:=hide (plain_one (HV.out _ hb1).1)
 clear hA hb1 HN HT
 go_upto_region 2 with fail
 refine wp_region_lit ?_
 refine wpList_call_ (f:=25) (args:=#[.bool true,.int .i64 1]) rfl (by go_simp) HPl.out ?_
 rintro e w2 ⟨c,cv1,rfl,hl1,ho1,hcv,hC2,hce,hcs,hcl,hgl,hal,hb2⟩
 refine ⟨_,rfl,?_⟩
 try simp only [Act.put,List.setIfInBounds_toArray,List.set_cons_zero,List.set_cons_succ]
 obtain ⟨w3,hw3⟩:∃w3,w3=w2.alloc (.cells zeroC 30):=⟨_,rfl⟩
 have hX3:Blk w3 w2.heap.size 30 zeroC:=by rw [hw3];exact Blk.new w2 _ _
 have hb3:Below w2.heap.size w2 w3:=by rw [hw3];exact bel_newN _
 refine wpList_val (v:=.pointer (some ⟨w2.heap.size,0,none⟩)) (w':=w3) rfl (by rw [hw3];exact allocC _ rfl _ _) ?_
 clear hw3
 try simp only [Act.put,List.setIfInBounds_toArray,List.set_cons_zero,List.set_cons_succ]
 refine wpList_store_conf rfl (.tmp 2) (.tmp 12) rfl (by rfl) (by rfl) hX3 rfl hl1 ho1 ?_
 have hX4:Blk (w3.setCells w2.heap.size 0 cv1.toList) w2.heap.size 30 cv1:=by
  have h9:=Blk.setCells cv1.toList 0 hX3
  rw [wrA_all (by rw [hl1];rfl),Array.toArray_toList] at h9
  exact h9
 have hb4:Below w2.heap.size w2 (w3.setCells w2.heap.size 0 cv1.toList):=below_setCells (Nat.le_refl _) _ _ hb3
 generalize w3.setCells w2.heap.size 0 cv1.toList=w4 at hX4 hb4 ⊢
 try simp only [Act.put,List.setIfInBounds_toArray,List.set_cons_zero,List.set_cons_succ]
 have y14:=hX4.cell 14
 have f14:=hX4.frozen 14
 rw [Array.getElem?_eq_getElem (show 14<cv1.size by have:=hl1;simp at this;omega)] at y14
 obtain ⟨w5,hw5⟩:∃w5,w5=w4.setCell ⟨w2.heap.size,14,none⟩ (.int .i64 1):=⟨_,rfl⟩
 have hX5:=hX4.set_ 14 (.int .i64 1)
 have hb5:Below w2.heap.size w2 (w4.setCell ⟨w2.heap.size,14,none⟩ (.int .i64 1)):=hb4.setCell (p:=⟨w2.heap.size,14,none⟩) (Nat.le_refl _) _
 rw [←hw5] at hX5 hb5
 have hb25:=hb5.size
 have hcel5:∀p:Addr,p.block<w2.heap.size→w5.cell? p=w2.cell? p:=fun p hp=>hb5.cell hp
 have HP5:=hide (HP.out.below (hb2.trans (hb5.mono hb2.size)))
 have nb:¬ S w2.heap.size:=fun h9=>by have h8:=HP.out.ar.sL _ h9;have h7:=hb2.size;omega
 have hb15:=hb2.trans (hb5.mono hb2.size)
 have HC6:=hide (fun (V:World) (S9:Nat→Prop) (hG:Grown S w5 S9 V)=>hC2 V (Nat.le_trans hb25 hG.size) (fun p h1 h2=>((World.cell?_of_block (hG.block p.block (Nat.lt_of_lt_of_le h2 hb25) (fun h9=>by have h8:=HP.out.ar.sL _ h9;omega))).trans (hcel5 p h2))))
 generalize cv1.setIfInBounds 14 (.int .i64 1)=cv at hX5 hcv
 have hl:=hcv.len
 clear hX3 hb3 hX4 hb4 hC2 hb2 hb5 HP HPl ho1 hb25 hcel5
 generalize w2.heap.size=bc at hX5 hw5 y14 f14 nb ⊢
 go_upto_region 3 with fail
 go_upto_region 4 with fail
 rw [←hw5]
 clear hw5 y14 f14 hl1
 have HX5:=hide hX5
 refine wp_region_E (fun V=>Blk V bc 30 cv) (fun i=>decide (i<10)) (by kernel_rfl) ?_
 obtain ⟨Wd,hWd⟩:∃Wd,Wd=w5.drew:=⟨_,rfl⟩
 have hbd:Below w5.heap.size w5 Wd:=by rw [hWd];exact (Below.refl _ _).drew
 have hSd:Blk Wd bc 30 cv:=hX5.below hbd hX5.lt
 have HD:=hide (data_base HP5.out (s:=⟨#[115]⟩) (by decide) (by simp) hbd)
 rw [←hWd]
 clear hWd hX5 hbd
 refine wpAnyE_take (i:=0) (oi:=?_) (v:=.pointer (some ⟨g,0,none⟩)) ?_ ?_ ?_ ?_ ?_ ?_ ?_ hSd ?_
 rotate_left 1
 ·(first | (simp only [List.getElem?_toArray,List.getElem?_cons_succ,List.getElem?_cons_zero];exact rfl) | exact rfl)
 ·kernel_rfl
 ·kernel_rfl
 ·kernel_rfl
 ·kernel_rfl
 ·exact fun _ _ _ h=>h
 ·refine Or.inl ⟨by rfl,fun w hSw=>?_⟩
  clear hSw
  go_simp
 try simp only [Act.put,List.setIfInBounds_toArray,List.set_cons_zero,List.set_cons_succ]
 refine wpAnyE_take (i:=1) (oi:=?_) (v:=.agg cv) ?_ ?_ ?_ ?_ ?_ ?_ ?_ hSd ?_
 rotate_left 1
 ·(first | (simp only [List.getElem?_toArray,List.getElem?_cons_succ,List.getElem?_cons_zero];exact rfl) | exact rfl)
 ·kernel_rfl
 ·kernel_rfl
 ·kernel_rfl
 ·kernel_rfl
 ·exact fun _ _ _ h=>h
 ·exact Or.inl ⟨by rfl,fun w hSw=>load_confA (x:=.tmp 2) _ rfl _ (by rfl) hSw hl⟩
 try simp only [Act.put,List.setIfInBounds_toArray,List.set_cons_zero,List.set_cons_succ]
 refine wpAnyE_take (i:=2) (oi:=?_) (v:=.pointer (some ⟨g,0,none⟩)) ?_ ?_ ?_ ?_ ?_ ?_ ?_ hSd ?_
 rotate_left 1
 ·(first | (simp only [List.getElem?_toArray,List.getElem?_cons_succ,List.getElem?_cons_zero];exact rfl) | exact rfl)
 ·kernel_rfl
 ·kernel_rfl
 ·kernel_rfl
 ·kernel_rfl
 ·exact fun _ _ _ h=>h
 ·refine Or.inl ⟨by rfl,fun w hSw=>?_⟩
  clear hSw
  go_simp
 try simp only [Act.put,List.setIfInBounds_toArray,List.set_cons_zero,List.set_cons_succ]
 refine wpAnyE_ready (rs:=[3]) (by kernel_rfl) (by simp) ?_
 refine AllReadyE.cons (o:=?_) ?_ (fun K hK=>?_) AllReadyE.nil
 rotate_left 1
 ·(first | (simp only [List.getElem?_toArray,List.getElem?_cons_succ,List.getElem?_cons_zero];exact rfl) | exact rfl)
 refine step_callA (f:=27) (by rfl) (by first | rfl | go_simp) HD.out ?_
 rintro e w6 ⟨T6,n6,S6,rfl,hi6,hp6,hl6,hP6,hG6⟩
 refine ⟨_,rfl,?_⟩
 have hS6:Blk w6 bc 30 cv:=(hG6.outs.blk (HX5.out) nb)
 refine hK.out _ _ hS6 (fun _=>?_)
 have HA6:=hide (anew_any c hcv (HV.out _ hP6.bel).1 (HV.out _ hP6.bel).2.1 (HC6.out _ _ hG6) hP6 hi6 (no:=false) ⟨fun h9=>(by rw [data_some (by decide)] at h9;cases h9),fun h9=>(by cases h9)⟩ (fun t h9=>(by rw [data_some (by decide)] at h9;cases h9;show (1:Nat)≠0;decide)))
 clear hK K hi6 hp6 HD
 try simp only [Act.put,List.setIfInBounds_toArray,List.set_cons_zero,List.set_cons_succ]
 refine wpAnyE_ready (rs:=[4]) (by kernel_rfl) (by simp) ?_
 refine AllReadyE.cons (o:=?_) ?_ (fun K hK=>?_) AllReadyE.nil
 rotate_left 1
 ·(first | (simp only [List.getElem?_toArray,List.getElem?_cons_succ,List.getElem?_cons_zero];exact rfl) | exact rfl)
 refine step_callA (f:=26) (by rfl) (by first | rfl | go_simp) HA6.out ?_
 rintro e w7 ⟨p,er,rfl,her,hb7,_,hpo⟩
 refine ⟨_,rfl,?_⟩
 have hE:=newE_o hce hcs (rfl:(false:Bool)=false)
 rw [hE] at her
 have her':er=.nilIface:=her
 subst her'
 obtain ⟨bs_,bg,hi,A9,c9,A8,c8,rfl,hSv⟩:=hpo hE
 have hS7:Blk w7 bc 30 cv:=hS6.below hb7 hS6.lt
 refine hK.out _ _ hS7 (fun _=>?_)
 clear hK K HA6 hpo her
 try simp only [Act.put,List.setIfInBounds_toArray,List.set_cons_zero,List.set_cons_succ]
 refine wpAnyE_take (i:=5) (oi:=?_) (v:=.tuple #[.pointer (some ⟨bs_,0,none⟩),.nilIface]) ?_ ?_ ?_ ?_ ?_ ?_ ?_ hS7 ?_
 rotate_left 1
 ·(first | (simp only [List.getElem?_toArray,List.getElem?_cons_succ,List.getElem?_cons_zero];exact rfl) | exact rfl)
 ·kernel_rfl
 ·kernel_rfl
 ·kernel_rfl
 ·kernel_rfl
 ·exact fun _ _ _ h=>h
 ·refine Or.inl ⟨by rfl,fun w hSw=>?_⟩
  clear hSw
  go_simp
 try simp only [Act.put,List.setIfInBounds_toArray,List.set_cons_zero,List.set_cons_succ]
 refine wpAnyE_take (i:=6) (oi:=?_) (v:=.pointer (some ⟨bs_,0,none⟩)) ?_ ?_ ?_ ?_ ?_ ?_ ?_ hS7 ?_
 rotate_left 1
 ·(first | (simp only [List.getElem?_toArray,List.getElem?_cons_succ,List.getElem?_cons_zero];exact rfl) | exact rfl)
 ·kernel_rfl
 ·kernel_rfl
 ·kernel_rfl
 ·kernel_rfl
 ·exact fun _ _ _ h=>h
 ·refine Or.inl ⟨by rfl,fun w hSw=>?_⟩
  clear hSw
  go_simp
 try simp only [Act.put,List.setIfInBounds_toArray,List.set_cons_zero,List.set_cons_succ]
 refine wpAnyE_take (i:=7) (oi:=?_) (v:=.nilIface) ?_ ?_ ?_ ?_ ?_ ?_ ?_ hS7 ?_
 rotate_left 1
 ·(first | (simp only [List.getElem?_toArray,List.getElem?_cons_succ,List.getElem?_cons_zero];exact rfl) | exact rfl)
 ·kernel_rfl
 ·kernel_rfl
 ·kernel_rfl
 ·kernel_rfl
 ·exact fun _ _ _ h=>h
 ·refine Or.inl ⟨by rfl,fun w hSw=>?_⟩
  clear hSw
  go_simp
 try simp only [Act.put,List.setIfInBounds_toArray,List.set_cons_zero,List.set_cons_succ]
 refine wpAnyE_take (i:=8) (oi:=?_) (v:=.pointer (some ⟨bs_,0,none⟩)) ?_ ?_ ?_ ?_ ?_ ?_ ?_ hS7 ?_
 rotate_left 1
 ·(first | (simp only [List.getElem?_toArray,List.getElem?_cons_succ,List.getElem?_cons_zero];exact rfl) | exact rfl)
 ·kernel_rfl
 ·kernel_rfl
 ·kernel_rfl
 ·kernel_rfl
 ·exact fun _ _ _ h=>h
 ·refine Or.inl ⟨by rfl,fun w hSw=>?_⟩
  clear hSw
  go_simp
 try simp only [Act.put,List.setIfInBounds_toArray,List.set_cons_zero,List.set_cons_succ]
 refine wpAnyE_take (i:=9) (oi:=?_) (v:=.nilIface) ?_ ?_ ?_ ?_ ?_ ?_ ?_ hS7 ?_
 rotate_left 1
 ·(first | (simp only [List.getElem?_toArray,List.getElem?_cons_succ,List.getElem?_cons_zero];exact rfl) | exact rfl)
 ·kernel_rfl
 ·kernel_rfl
 ·kernel_rfl
 ·kernel_rfl
 ·exact fun _ _ _ h=>h
 ·refine Or.inl ⟨by rfl,fun w hSw=>?_⟩
  clear hSw
  go_simp
 try simp only [Act.put,List.setIfInBounds_toArray,List.set_cons_zero,List.set_cons_succ]
 refine wpAnyE_done (by kernel_rfl) ?_ _
 rw [hcl] at hSv
 have HS7:=hide hSv
 have HT1:=hide (show Calls Tryz.prog 11 #[.pointer (some ⟨bs_,0,none⟩),.string ⟨#[5,0,0,0,12,115,115,104,45,117,115,101,114,97,117,116,104]⟩] w7 (TakR w w.heap.size g w6.heap.size hi bs_ bg A9 c9 c.gr A8 c8 c.al 1 n6 (tData ⟨#[115]⟩) T6 S6 w7 (⟨1,0⟩,⟨acceptL,none,none⟩)) from by
  have h9:=take_any HS7.out ⟨#[5,0,0,0,12,115,115,104,45,117,115,101,114,97,117,116,104]⟩ (by decide) (by simp at hl6;omega) (by decide) (by decide) hgl hal (decK (by decide))
  rw [show (⟨#[5,0,0,0,12,115,115,104,45,117,115,101,114,97,117,116,104]⟩:ByteArray).data.toList=svcL from rfl,tak_svc] at h9
  exact h9)
 clear hSv hS6 hS7 hSd hb7 hP6 hG6 HP5 nb
 try simp only [Act.put,List.setIfInBounds_toArray,List.set_cons_zero,List.set_cons_succ]
 go_wp2_with fail
 refine HT1.out.mono ?_
 rintro e w8 ⟨T8,S8,ov,ev,er,rfl,ho,hv,hr,hp8,hl8,hM8,_⟩
 obtain ⟨b8,rfl,hB8⟩:=ho.2 (by decide)
 have hv':ev=.slice none 0 0:=hv
 subst hv'
 have hr':er=.nilIface:=hr
 subst hr'
 have hl6':T6.length≤1:=by simpa using hl6
 have eq2:bs ([50]++putFs (reqF [110,111,110,101]))=(⟨#[50,0,0,0,3,97,110,110,0,0,0,14,115,115,104,45,99,111,110,110,101,99,116,105,111,110,0,0,0,4,110,111,110,101]⟩:ByteArray):=by kernel_rfl
 have HT2:=hide (show Calls Tryz.prog 11 #[.pointer (some ⟨bs_,0,none⟩),.string ⟨#[50,0,0,0,3,97,110,110,0,0,0,14,115,115,104,45,99,111,110,110,101,99,116,105,111,110,0,0,0,4,110,111,110,101]⟩] w8 (LimP w w.heap.size g w6.heap.size hi bs_ bg A9 c9 c.gr A8 c8 c.al 1 n6 (tData ⟨#[115]⟩) T8 0) from by
  have h9:=lim_take (i:=0) (lim:=1) (m:=[110,111,110,101]) (show SrvM w w.heap.size g w6.heap.size hi bs_ bg A9 c9 c.gr A8 c8 c.al 1 n6 (tData ⟨#[115]⟩) T8 S8 (limS 1 0) w8 from hM8) (by decide) (by decide) (by decide) (by omega) hgl hal
  rw [eq2] at h9
  exact h9)
 clear eq2 ho hv hr hp8 hl8 hM8 hB8 HT1 HS7
 go_wp2_with fail
 refine HT2.out.mono ?_
 rintro e w9 ⟨T9,S9,ov9,er9,rfl,ho9,hr9,hl9,hM9⟩
 have hr9':IsErr w9 er9 [authsL,limitL] 12:=by
  rw [show errL 1 0=some ([authsL,limitL],12) from by kernel_rfl] at hr9
  exact hr9
 obtain ⟨b9,v9,rfl,hB9,hi9⟩:=hr9'
 have hi9':IsErr w9 (errV b9) [authsL,limitL] 12:=⟨b9,v9,rfl,hB9,hi9⟩
 have HTo:=hide (show Calls Tryz.prog 10 #[errV b9,.agg #[.int .i64 12,.string ⟨#[97,117,116,104,115,32,108,105,109,105,116,32]⟩]] w9 (fun e w'=>e=.returned (.bool true)∧Below w9.heap.size w9 w') from told28_err (b:=b9) (ps:=[authsL,limitL]) (k:=12) (by decide) (by decide) (by decide) hi9' ((HV.out _ hM9.pay.bel).2.2))
 have Hbl:=hide hM9.pay.bel
 clear ho9 hr9 hl9 hM9 hB9 hi9 hi9' HT2 HV
 unfold errV at HTo ⊢
 go_wp2_with fail
 refine HTo.out.mono ?_
 rintro e w10 ⟨rfl,hb10⟩
 go_wp2_with fail
 go_ret
 exact ⟨rfl,Hbl.out.trans (hb10.mono Hbl.out.size)⟩
end
section
variable {w : World}
theorem authsLimit_any (hT:Tab w) (hMx:MaxL w) (hMe:MethV w) (hWo:WordV w) (hH:Hand w) (c:CfP) (hc:c.W w) (sid:ByteArray) (hsd:sid.size≤maxLen) {A:Option Addr} {d:Nat} {l:List (List UInt8)} (hl:Txs w (.slice A l.length d) l) (hll:l.length≤maxLen) (hlz:∀x∈l,x.length≤maxLen) :
  Calls Tryz.prog 5 #[.agg (c.cells++#[Value.string sid]),.slice A l.length d] w (fun e w'=>e=.returned (.bool true)∧Below w.heap.size w w'):=by
 obtain ⟨cv,hce,hcv⟩:=conf_box c
 rw [hce]
 clear hce
 obtain ⟨W0,hW0⟩:∃W0,W0=w.alloc (.cells (cv++#[Value.string sid]) 32):=⟨_,rfl⟩
 have hb0:Below w.heap.size w W0:=by rw [hW0];exact bel_newF _
 have hX:StB W0 w.heap.size cv sid:=⟨by rw [hW0];exact Blk.new w _ _,hcv.len⟩
 have HF:=hide (few28_any c (hc.below hb0) hcv sid hsd (hl.below hb0) hll hlz)
 have HAw:=hide (fun (V:World) (hb:Below w.heap.size w V)=>awake28_any (hT.below hb) (hMx.below hb) (hMe.below hb) (hWo.below hb) (hH.below hb))
 have HV:=hide (fun (V:World) (hb:Below w.heap.size w V)=>And.intro (And.intro (hT.below hb) (hMx.below hb)) (And.intro (hMe.below hb) (And.intro (hWo.below hb) (And.intro (hH.below hb) (And.intro (hc.below hb) (hl.below hb))))))
 have p0:=hcv.p0
 have p14:=hcv.p14
 have Hcv:=hide hcv
 have HX:=hide (And.intro hb0 hX)
 generalize hcx:cv++#[Value.string sid]=cx at hW0 HF
 clear hT hMx hMe hWo hH hc hl hcv hb0
 cases hf:fewM c sid l with
 | false =>
  rw [hf] at HF
  clear hf hX p0 p14
  go_enter Tryz.func5,Tryz.ntmps5
  go_upto_region 1 with fail
  rw [←hW0]
  clear hW0
  have hX:=HX.out.2
  refine wp_region_lit ?_
  refine wpList_load_st (by rfl) (.tmp 2) rfl (by rfl) hX ?_
  rw [hcx]
  try simp only [Act.put,List.setIfInBounds_toArray,List.set_cons_zero,List.set_cons_succ]
  refine wpList_valG (v:=.slice A l.length d) (w':=W0) (by rfl) (by first | rfl | go_simp) ?_
  try simp only [Act.put,List.setIfInBounds_toArray,List.set_cons_zero,List.set_cons_succ]
  refine wpList_callG (f:=6) (by rfl) (by first | rfl | go_simp) HF.out ?_
  rintro e w1 ⟨rfl,hb1⟩
  refine ⟨_,rfl,?_⟩
  try simp only [Act.put,List.setIfInBounds_toArray,List.set_cons_zero,List.set_cons_succ]
  have Hb1:=hide (HX.out.1.trans (hb1.mono HX.out.1.size))
  clear hb1 hX HF HX hcx
  go_wp2_with fail
  refine (HAw.out _ Hb1.out).mono ?_
  rintro e w2 ⟨rfl,hb2⟩
  go_wp2_with fail
  go_ret
  exact ⟨rfl,Hb1.out.trans (hb2.mono Hb1.out.size)⟩
 | true =>
  rw [hf] at HF
  have hfw:l.length≤20∧c.fw=true∧sid.size≤300:=by
   unfold fewM at hf
   simp only [Bool.and_eq_true,decide_eq_true_eq] at hf
   exact ⟨hf.1.1.1,hf.1.1.2,hf.1.2⟩
  have hal:=CfP.fw_len hfw.2.1
  clear hf hX
  cases hsv:c.sv with
  | false =>
   rw [hsv] at p0
   have x0:=HX.out.2.at_ p0
   clear p0 p14
   go_enter Tryz.func5,Tryz.ntmps5
   go_upto_region 1 with fail
   rw [←hW0]
   clear hW0
   have hX:=HX.out.2
   refine wp_region_lit ?_
   refine wpList_load_st (by rfl) (.tmp 2) rfl (by rfl) hX ?_
   rw [hcx]
   try simp only [Act.put,List.setIfInBounds_toArray,List.set_cons_zero,List.set_cons_succ]
   refine wpList_valG (v:=.slice A l.length d) (w':=W0) (by rfl) (by first | rfl | go_simp) ?_
   try simp only [Act.put,List.setIfInBounds_toArray,List.set_cons_zero,List.set_cons_succ]
   refine wpList_callG (f:=6) (by rfl) (by first | rfl | go_simp) HF.out ?_
   rintro e w1 ⟨rfl,hb1⟩
   refine ⟨_,rfl,?_⟩
   try simp only [Act.put,List.setIfInBounds_toArray,List.set_cons_zero,List.set_cons_succ]
   have Hb1:=hide (HX.out.1.trans (hb1.mono HX.out.1.size))
   have x0:=cellB hb1 x0
   clear hb1 hX HF HX hcx
   go_wp2_with fail
   refine (HAw.out _ Hb1.out).mono ?_
   rintro e w2 ⟨rfl,hb2⟩
   go_wp2_with fail
   go_ret
   exact ⟨rfl,Hb1.out.trans (hb2.mono Hb1.out.size)⟩
  | true =>
   rw [hsv] at p0
   have x0:=HX.out.2.at_ p0
   go_enter Tryz.func5,Tryz.ntmps5
   go_upto_region 1 with fail
   rw [←hW0]
   clear hW0
   have hX:=HX.out.2
   refine wp_region_lit ?_
   refine wpList_load_st (by rfl) (.tmp 2) rfl (by rfl) hX ?_
   rw [hcx]
   try simp only [Act.put,List.setIfInBounds_toArray,List.set_cons_zero,List.set_cons_succ]
   refine wpList_valG (v:=.slice A l.length d) (w':=W0) (by rfl) (by first | rfl | go_simp) ?_
   try simp only [Act.put,List.setIfInBounds_toArray,List.set_cons_zero,List.set_cons_succ]
   refine wpList_callG (f:=6) (by rfl) (by first | rfl | go_simp) HF.out ?_
   rintro e w1 ⟨rfl,hb1⟩
   refine ⟨_,rfl,?_⟩
   try simp only [Act.put,List.setIfInBounds_toArray,List.set_cons_zero,List.set_cons_succ]
   have hb01:=HX.out.1.trans (hb1.mono HX.out.1.size)
   have HX1:=hide (HX.out.2.below hb1)
   have hlt:w.heap.size<w1.heap.size:=HX1.out.blk.lt
   have x0:=cellB hb1 x0
   have HN:=hide (new_any w1)
   have Hb1:=hide hb01
   clear hb1 hb01 hX HF HX
   go_upto_region 4 with (first
    | (go_at_call 8;refine HN.out.mono ?_;rintro e w2 ⟨g,S,rfl,hA,hb2⟩)
    | fail)
   have HP:=hide (Pay.new (HV.out _ Hb1.out).1.1 (HV.out _ Hb1.out).1.2 (Below.refl _ _) hA hb2)
   have hX2:=HX1.out.below hb2
   have hb12:=Hb1.out.trans (hb2.mono Hb1.out.size)
   have HS:=hide (setnew_any c Hcv.out (HV.out _ Hb1.out).2.1 (HV.out _ Hb1.out).2.2.1 ((HV.out _ Hb1.out).2.2.2.2.1.m hfw.2.1) (HV.out _ Hb1.out).2.2.2.2.1.u0 (HV.out _ Hb1.out).2.2.2.2.1.u1 (HV.out _ Hb1.out).2.2.2.2.1.u2 HP.out (by simp) sid hfw.2.2)
   have hltg:w.heap.size<w2.heap.size:=hX2.blk.lt
   clear hA hb2 HN x0
   refine wp_region_lit ?_
   refine wpList_load_st (by rfl) (.tmp 2) rfl (by rfl) hX2 ?_
   rw [hcx]
   try simp only [Act.put,List.setIfInBounds_toArray,List.set_cons_zero,List.set_cons_succ]
   refine wpList_valG (v:=.pointer (some ⟨g,0,none⟩)) (w':=w2) (by rfl) (by first | rfl | go_simp) ?_
   try simp only [Act.put,List.setIfInBounds_toArray,List.set_cons_zero,List.set_cons_succ]
   rw [←hcx]
   refine wpList_callG (f:=9) (by rfl) (by first | rfl | go_simp) HS.out ?_
   rintro e w3 ⟨n,p,er,bq,y,T3,S3,rfl,hy,hR⟩
   refine ⟨_,rfl,?_⟩
   try simp only [Act.put,List.setIfInBounds_toArray,List.set_cons_zero,List.set_cons_succ]
   have HR:=hide hR
   clear hR hy HS hX2 hb12 hcx cx
   generalize errK (newE c (sid.toList == ([]:List UInt8)))=kk
   rcases or_opt (newE c (sid.toList == ([]:List UInt8))) with he | ⟨⟨ps,k⟩,he⟩
   ·have her:=HR.out.er
    rw [he] at her
    have her':er=.nilIface:=her
    subst her'
    obtain ⟨hce,hcs,hcn⟩:=newE_n he
    obtain ⟨lo,hi,bs_,bg,A9,c9,A8,c8,hlo,hhi,rfl,hM3⟩:=HR.out.ok he
    have hlim:=deny_lim (c.deny hce hcs)
    obtain ⟨w4,hw4⟩:∃W4,W4=w3.alloc (.cells #[.int .i64 kk,.string y] 44):=⟨_,rfl⟩
    have hb4:Below w3.heap.size w3 w4:=by rw [hw4];exact bel_newF _
    have hM4:=hM3.below hb4
    have hl3:T3.length≤2:=by have:=HR.out.len;simpa using this
    have HT1:=hide (show Calls Tryz.prog 11 #[.pointer (some ⟨bs_,0,none⟩),.string ⟨#[5,0,0,0,12,115,115,104,45,117,115,101,114,97,117,116,104]⟩] w4 (TakR w1 w1.heap.size g lo hi bs_ bg A9 c9 c.gr A8 c8 c.al c.lim n (sidO sid) T3 S3 w4 (⟨1,0⟩,⟨acceptL,none,none⟩)) from by
     have h9:=take_any hM4 ⟨#[5,0,0,0,12,115,115,104,45,117,115,101,114,97,117,116,104]⟩ (by decide) (by omega) (by show ((0:Nat):Int)<_;omega) (by decide) (by omega) (by omega) (decK (by decide))
     rw [show (⟨#[5,0,0,0,12,115,115,104,45,117,115,101,114,97,117,116,104]⟩:ByteArray).data.toList=svcL from rfl,tak_svc] at h9
     exact h9)
    clear hM3 hb4 hM4 her hce hcs hcn HR he hhi hlo
    go_upto_region 5 with fail
    rw [←hw4]
    clear hw4
    go_wp2_with fail
    refine HT1.out.mono ?_
    rintro e w5 ⟨T5,S5,ov,ev,er5,rfl,ho,hv,hr,hp5,hl5,hM5,_⟩
    have hv':ev=.slice none 0 0:=hv
    subst hv'
    have hr':er5=.nilIface:=hr
    subst hr'
    have HM5:=hide (show SrvM w1 w1.heap.size g lo hi bs_ bg A9 c9 c.gr A8 c8 c.al c.lim n (sidO sid) T5 S5 (limS c.lim 0) w5 from by rw [show limS c.lim 0=⟨1,0⟩ from if_pos (by omega)];exact hM5)
    have hl5':T5.length≤15002:=by omega
    clear ho hv hr hp5 hl5 hM5 HT1 hl3
    go_wp2_with fail
    go_loopw [14] (fun vi wr=>∃(i:Nat) (T:List Tm) (S':Nat→Prop),vi=.int .i64 i∧i≤l.length∧Hid (SrvM w1 w1.heap.size g lo hi bs_ bg A9 c9 c.gr A8 c8 c.al c.lim n (sidO sid) T S' (limS c.lim i) wr)∧T.length≤capL i) (fun vi _=>l.length - (intOf vi).toNat)
    case atStart=>exact ⟨0,T5,S5,rfl,Nat.zero_le _,HM5,by unfold capL;omega⟩
    case round =>
     obtain ⟨i,T,S',rfl,hi',HM,hcap⟩:=hrel
     have hcs:=capL_succ i
     have hcl:=capL_lim (i:=i) (by omega)
     have hbr:=HM.out.pay.bel
     clear HM5 hl5'
     by_cases hlt2:i<l.length
     ·have hii:(i:Int)<l.length:=by omega
      obtain ⟨A',d',hv,hA⟩:=((HV.out _ Hb1.out).2.2.2.2.2.below hbr).open_
      obtain ⟨rfl,rfl⟩:A'=A∧d'=d:=by injection hv with e1 _ e2;exact ⟨e1.symm,e2.symm⟩
      obtain ⟨ad,rfl,hab,hc2⟩:=hA i hlt2
      have hlzi:=hlz l[i] (List.getElem_mem hlt2)
      generalize l[i]=m at hc2 hlzi
      have hms:(bs m).size=m.length:=rfl
      have hmz:(bs m).size≤maxLen:=hlzi
      clear hA hv
      by_cases h100:m.length≤100
      ·obtain ⟨x,hx⟩:∃x,x=bs m:=⟨_,rfl⟩
       rw [←hx] at hc2 hms hmz
       have Hx:=hide hx
       clear hx
       have hi100:¬ (100:Int)<x.size:=by omega
       obtain ⟨W6,hW6⟩:∃W6,W6=(wr.alloc (.cells #[.int .u8 115,.int .i64 0,.string ⟨#[97,110,110]⟩,.slice none 0 0,.int .u8 115,.int .i64 0,.string ⟨#[115,115,104,45,99,111,110,110,101,99,116,105,111,110]⟩,.slice none 0 0,.int .u8 115,.int .i64 0,.string x,.slice none 0 0] 75)).alloc (.cells #[.int .i64 50,.slice (some ⟨wr.heap.size,0,none⟩) 3 3] 69):=⟨_,rfl⟩
       have hb6:Below wr.heap.size wr W6:=by rw [hW6];exact bel_by
       have hF6:Flds W6 (some ⟨wr.heap.size,0,none⟩) (reqF m):=flds_req (by rw [hW6,← Hx.out];exact (Blk.new wr _ _).alloc _)
       have HEn:=hide (rencode_anyM (w:=W6) 50 (c:=3) hF6 (fun y hy=>by
        simp only [reqF,List.mem_cons,List.not_mem_nil,or_false] at hy
        rcases hy with rfl | rfl | rfl
        ·exact ⟨by decide,by simp,by simp⟩
        ·exact ⟨by decide,by simp,by simp⟩
        ·exact ⟨by show m.length≤_;omega,by simp,by simp⟩) (by show 3≤1000;decide))
       have Hb6:=hide hb6
       have hX6:Blk W6 (wr.heap.size+1) 69 #[.int .i64 50,.slice (some ⟨wr.heap.size,0,none⟩) 3 3]:=by rw [hW6];exact blk_new2 wr _ _ _
       have m0:=hX6.cell 0
       have m1:=hX6.cell 1
       simp only [List.getElem?_toArray,List.getElem?_cons_zero,List.getElem?_cons_succ] at m0 m1
       clear hb6 hF6 hX6 hbr hms hmz hlzi
       go_upto_region 16 with fail
       rw [←hW6]
       clear hW6
       have HM6:=hide (HM.out.below Hb6.out)
       clear HM
       go_wp2_with fail
       refine HEn.out.mono ?_
       rintro e w7 ⟨hb7,⟨q,hq,rfl⟩ | ⟨qs,qk,hqk,_,rfl⟩⟩
       ·rw [enc_req h100] at hq
        obtain rfl:[50]++putFs (reqF m)=q:=by injection hq
        have HM7:=hide (HM6.out.below hb7)
        have HT:=hide (fun (V:World) (hb:Below w7.heap.size w7 V)=>lim_take (HM7.out.below hb) hlim.1 hlim.2 h100 (by omega) (by omega) (by omega))
        clear hq hb7 HEn m0 m1 hc2 hi100 Hx HM6
        generalize bs ([50]++putFs (reqF m))=q at HT ⊢
        go_wp2_with fail
        refine (HT.out _ (by exact bel_by)).mono ?_
        rintro e w9 ⟨T9,S9,ov9,er9,rfl,ho9,hr9,hl9,hM9⟩
        have hbw9:=hM9.pay.bel
        have x14:=(HX1.out.below hbw9).at_ p14
        have HFs:=hide (fun (V:World) (hb:Below w9.heap.size w9 V)=>afs_any (hM9.below hb))
        have HIn:=hide (fun (V:World) (hb:Below w9.heap.size w9 V)=>ain_any (hM9.below hb))
        rw [limS_ph] at HIn
        rw [limS_fl _ _ hlim.1] at HFs
        have HM9:=hide hM9
        have hl9':T9.length≤capL (i+1):=by omega
        clear hM9 HM7 HT hcs hcl hcap hl9
        have hab:(i:Int)+1<c.lim∨(i:Int)+1=c.lim∨c.lim<(i:Int)+1:=by omega
        rcases hab with ha | hb | hc
        ·have e1:outL c.lim i=refuseL:=if_pos (by omega)
         have e2:errL c.lim i=none:=if_pos (by omega)
         rw [e1] at ho9
         rw [e2] at hr9
         have hr9':er9=.nilIface:=hr9
         subst hr9'
         rw [show (if (((i+1:Nat):Int))<c.lim then (((i+1:Nat):Int)) else c.lim)=(i:Int)+1 from by rw [if_pos (by omega)];omega] at HFs
         have HSa:=hide (show Calls Tryz.prog 15 #[ov9,.string ⟨#[51,0,0,0,9,112,117,98,108,105,99,107,101,121,0]⟩] w9 (fun e w'=>e=.returned (.bool true)∧Below w9.heap.size w9 w') from same28_any (o:=refuseL) ho9)
         have hn1:¬ (i:Int)+1=c.lim:=by omega
         have hn2:¬ c.lim<(i:Int)+1:=by omega
         have d1:decide ((i:Int)+1<c.lim)=true:=decide_eq_true ha
         have d2:((i:Int)+1 == c.lim)=false:=by rw [beq_eq_false_iff_ne];exact hn1
         have d3:decide (c.lim<(i:Int)+1)=false:=decide_eq_false hn2
         have d4:((i:Int)+1 != (i:Int)+1)=false:=by simp
         have hbi:(i:Int)≤20:=by omega
         clear ho9 hr9 e1 e2
         go_upto_region 19 with fail
         go_upto_region 21 with (first
          | (go_at_call 15;refine HSa.out.mono ?_;rintro e wa ⟨rfl,hba⟩;have x14:=cellB hba x14)
          | (go_at_call 13;refine (HFs.out _ hba).mono ?_;rintro e wb ⟨rfl,rfl⟩)
          | fail)
         go_upto_region 23 with fail
         have x14q:=fun dd oo=>cell_regrown (v:=.int .i64 c.lim) x14 dd oo
         refine wp_region_quiet_below (by kernel_rfl) (by kernel_rfl) ?_
         repeat (first | go_big_quiet_skip | quiet_step (fail))
         refine wpQuiet_nil ?_
         intro _ hwq
         obtain ⟨⟨dq,osq⟩,hwqq⟩:=hwq
         subst hwqq
         have hbq:=below_regrown wa dq osq
         generalize grow (redrawn wa dq) osq=wq at hbq ⊢
         clear x14q x14
         have hb9q:=hba.trans (hbq.mono hba.size)
         go_wp2_with (first | (go_at_call 12;refine (HIn.out _ hb9q).mono ?_;rintro e wc ⟨rfl,rfl⟩) | fail)
         exact ⟨⟨i+1,T9,S9,by go_num,by omega,hide (HM9.out.below hb9q),hl9'⟩,by simp [intOf];omega⟩
        ·have e1:outL c.lim i=[]:=if_neg (by omega)
         have e2:errL c.lim i=some ([authsL,limitL],12):=by unfold errL;rw [if_neg (by omega),if_pos (by omega)]
         rw [e1] at ho9
         rw [e2] at hr9
         have hov:=ho9.1 rfl
         subst hov
         rw [show (if (((i+1:Nat):Int))<c.lim then (((i+1:Nat):Int)) else c.lim)=c.lim from if_neg (by omega)] at HFs
         have hr9':IsErr w9 er9 [authsL,limitL] 12:=hr9
         obtain ⟨b9,v9,rfl,hB9,hi9⟩:=hr9'
         have hi9':IsErr w9 (errV b9) [authsL,limitL] 12:=⟨b9,v9,rfl,hB9,hi9⟩
         have HTo:=hide (show Calls Tryz.prog 10 #[errV b9,.agg #[.int .i64 12,.string ⟨#[97,117,116,104,115,32,108,105,109,105,116,32]⟩]] w9 (fun e w'=>e=.returned (.bool true)∧Below w9.heap.size w9 w') from told28_err (b:=b9) (ps:=[authsL,limitL]) (k:=12) (by decide) (by decide) (by decide) hi9' ((HV.out _ (Hb1.out.trans (hbw9.mono Hb1.out.size))).2.2.2.1))
         have hn1:¬ (i:Int)+1<c.lim:=by omega
         have hn2:¬ c.lim<(i:Int)+1:=by omega
         have d1:decide ((i:Int)+1<c.lim)=false:=decide_eq_false hn1
         have d2:((i:Int)+1 == c.lim)=true:=by rw [hb];simp
         have d3:decide (c.lim<(i:Int)+1)=false:=decide_eq_false hn2
         have d4:(c.lim != (i:Int)+1)=false:=by rw [hb];simp
         have hbi:(i:Int)≤20:=by omega
         clear ho9 hr9 e1 e2 hB9 hi9 hi9' hb
         unfold errV at HTo ⊢
         go_upto_region 21 with fail
         go_upto_region 23 with (first
          | (go_at_call 10;refine HTo.out.mono ?_;rintro e wa ⟨rfl,hba⟩;have x14:=cellB hba x14)
          | (go_at_call 13;refine (HFs.out _ hba).mono ?_;rintro e wb ⟨rfl,rfl⟩)
          | fail)
         have x14q:=fun dd oo=>cell_regrown (v:=.int .i64 c.lim) x14 dd oo
         refine wp_region_quiet_below (by kernel_rfl) (by kernel_rfl) ?_
         repeat (first | go_big_quiet_skip | quiet_step (fail))
         refine wpQuiet_nil ?_
         intro _ hwq
         obtain ⟨⟨dq,osq⟩,hwqq⟩:=hwq
         subst hwqq
         have hbq:=below_regrown wa dq osq
         generalize grow (redrawn wa dq) osq=wq at hbq ⊢
         clear x14q x14
         have hb9q:=hba.trans (hbq.mono hba.size)
         go_wp2_with (first | (go_at_call 12;refine (HIn.out _ hb9q).mono ?_;rintro e wc ⟨rfl,rfl⟩) | fail)
         exact ⟨⟨i+1,T9,S9,by go_num,by omega,hide (HM9.out.below hb9q),hl9'⟩,by simp [intOf];omega⟩
        ·have e1:outL c.lim i=[]:=if_neg (by omega)
         have e2:errL c.lim i=some ([authsL],7):=by unfold errL;rw [if_neg (by omega),if_neg (by omega)]
         rw [e1] at ho9
         rw [e2] at hr9
         have hov:=ho9.1 rfl
         subst hov
         rw [show (if (((i+1:Nat):Int))<c.lim then (((i+1:Nat):Int)) else c.lim)=c.lim from if_neg (by omega)] at HFs
         have hr9':IsErr w9 er9 [authsL] 7:=hr9
         obtain ⟨b9,v9,rfl,hB9,hi9⟩:=hr9'
         have hi9':IsErr w9 (errV b9) [authsL] 7:=⟨b9,v9,rfl,hB9,hi9⟩
         have hbw9w:=Hb1.out.trans (hbw9.mono Hb1.out.size)
         have HTo:=hide (fun (V:World) (hb:Below w9.heap.size w9 V)=>show Calls Tryz.prog 10 #[errV b9,.agg #[.int .i64 7,.string ⟨#[97,117,116,104,115,32]⟩]] V (fun e w'=>e=.returned (.bool true)∧Below w9.heap.size w9 w') from (told28_err (b:=b9) (ps:=[authsL]) (k:=7) (by decide) (by decide) (by decide) (hi9'.below hb) ((HV.out _ (hbw9w.trans (hb.mono hbw9w.size))).2.2.2.1)).mono fun e w' h9=>(⟨h9.1,hb.trans (h9.2.mono hb.size)⟩:_∧Below w9.heap.size w9 w'))
         have hn1:¬ (i:Int)+1<c.lim:=by omega
         have hn2:¬ (i:Int)+1=c.lim:=by omega
         have d1:decide ((i:Int)+1<c.lim)=false:=decide_eq_false hn1
         have d2:((i:Int)+1 == c.lim)=false:=by rw [beq_eq_false_iff_ne];exact hn2
         have d3:decide (c.lim<(i:Int)+1)=true:=decide_eq_true hc
         have d4:(c.lim != c.lim)=false:=by simp
         have hbi:(i:Int)≤20:=by omega
         clear ho9 hr9 e1 e2 hB9 hi9 hi9'
         unfold errV at HTo ⊢
         go_upto_region 21 with fail
         go_upto_region 23 with fail
         go_region_held3 (fun V=>V.cell? ⟨w.heap.size,14,none⟩=some (.int .i64 c.lim))
          (exact x14)
          (first
           | (go_at_call 10;refine (HTo.out _ (by exact bel_by)).mono ?_;rintro e wa ⟨rfl,hba⟩;replace x14:=(HX1.out.below (hbw9.trans (hba.mono hbw9.size))).at_ p14)
           | (go_at_call 13;refine (HFs.out _ (by exact bel_by)).mono ?_;rintro e wb ⟨rfl,rfl⟩)
           | fail)
         go_wp2_with (first | (go_at_call 12;refine (HIn.out _ (by exact bel_by)).mono ?_;rintro e wc ⟨rfl,rfl⟩) | fail)
         exact ⟨⟨i+1,T9,S9,by go_num,by omega,hide (HM9.out.below (by exact bel_by)),hl9'⟩,by simp [intOf];omega⟩
       ·exfalso
        rw [enc_req h100] at hqk
        cases hqk
      ·obtain ⟨x,hx⟩:∃x,x=bs m:=⟨_,rfl⟩
       rw [←hx] at hc2 hms hmz
       have hi100:(100:Int)<x.size:=by omega
       clear hx hms
       have hbw:=Hb1.out.trans (hbr.mono Hb1.out.size)
       clear HM hbr
       go_wp2_with fail
       refine (HAw.out _ hbw).mono ?_
       rintro e w6 ⟨rfl,hb6⟩
       go_wp2_with fail
       go_ret
       exact ⟨by simp,hbw.trans (hb6.mono hbw.size)⟩
     ·obtain rfl:i=l.length:=by omega
      have hii:¬ (l.length:Int)<l.length:=by omega
      have hbw:=Hb1.out.trans (hbr.mono Hb1.out.size)
      clear HM hbr
      go_wp2_with fail
      refine (HAw.out _ hbw).mono ?_
      rintro e w6 ⟨rfl,hb6⟩
      go_wp2_with fail
      go_ret
      exact ⟨by simp,hbw.trans (hb6.mono hbw.size)⟩
   ·have her:=HR.out.er
    rw [he] at her
    have hpn:=HR.out.no (by rw [he];simp)
    subst hpn
    obtain ⟨te,ue,rfl⟩:=IsErr.shape (show IsErr w3 er ps k from her)
    have hbw:=Hb1.out.trans (HR.out.pay.bel.mono Hb1.out.size)
    clear her HR he
    obtain ⟨w4,hw4⟩:∃W4,W4=w3.alloc (.cells #[.int .i64 kk,.string y] 44):=⟨_,rfl⟩
    have hb4:Below w3.heap.size w3 w4:=by rw [hw4];exact bel_newF _
    have hbw4:=hbw.trans (hb4.mono hbw.size)
    clear hb4
    go_upto_region 5 with fail
    rw [←hw4]
    clear hw4
    go_wp2_with fail
    refine (HAw.out _ hbw4).mono ?_
    rintro e w6 ⟨rfl,hb6⟩
    go_wp2_with fail
    go_ret
    exact ⟨by simp,hbw4.trans (hb6.mono hbw4.size)⟩
end
end Go.Proofs.YtihfpbaaiedfbaaGreatDoor
