/-
  Several of my texts in one: AuAw, AuAc.
-/
import Derived.Test.YtkfnepnghnicoaaGreatDoorKAuZG
import Derived.Test.YtkfnepnghnicoaaGreatDoorKAuTkG
import Derived.Test.YtkfnepnghnicoaaGreatDoorKAuJG
import Derived.Test.YtkfnepnghnicoaaGreatDoorKMkrG
import Derived.Test.YtkfnepnghnicoaaGreatDoorKAuRuG
import Derived.Test.YtkfnepnghnicoaaGreatDoorKRdrDG
import Derived.Test.YtkfnepnghnicoaaGreatDoorKAuH
set_option linter.unusedVariables false
set_option linter.unusedSimpArgs false
set_option maxHeartbeats 40000000
set_option maxRecDepth 100000
namespace Go.Proofs.YtkfnepnghnicoaaGreatDoor
open Go.RowKit Go.ChangeShapes Go.WideShapes Go.Sort
theorem step_callA {P:Program} {Q:Exit→Act→World→Prop} {ops:Array Oper} {o:Oper} {a:Act} {w:World} {args:Array Value} {f:FuncId} {K:Act→World→Prop} {F:Prop} (hw:Region.wanted o (yielded ops a.tmps)=true)
  (hr:(execOp a.eval o).run P w=.ok (.enter f args) w) {post:Ending→World→Prop} (hc:Calls P f args w post) (h:∀e w',post e w'→∃r,e=.returned r∧K (a.put o.dst r) w'):if Region.wanted o (yielded ops a.tmps)=true then Oper.wp P o a w K Q else F:=by
 rw [if_pos hw]
 unfold Oper.wp
 rw [hr,Oper.upon_enter]
 refine hc.mono fun e w' hp=>?_
 obtain ⟨r,rfl,hk⟩:=h e w' hp
 exact hk
theorem load_confA {w:World} {x:Operand} (o:Oper) (ho:o.op=.load 30 x) (ρ:Operand→Value) {b:Nat} (hx:ρ x=.pointer (some ⟨b,0,none⟩)) {cv:Array Value} (hX:Blk w b 30 cv) (hl:cv.toList.length=23) :
  (execOp ρ o).run Tryz.prog w=.ok (.value (.agg cv)) w:=by
 unfold execOp
 have key:=run_loadAt_mid (P:=Tryz.prog) w b 0 30 cv.toList _ (rangeC (by rw [Array.toArray_toList];exact hX)) Tryz.underlying30 rfl (by rw [hl];exact infoConf)
 rw [Array.toArray_toList] at key
 simp only [ho,hx]
 simp [Sem.run_bind,key]
theorem es_aw:inC (fstE [unl (verL [112,108,97,105,110] [] != []) [118,101,114,115,105,111,110] 1,prR (prW plainLs),unl (princL 1) [111,119,110] 5,denyR (denyE [([97,110,110],8)] [[115,115,104,45,101,100,50,53,53,49,57]] 1)])=none:=by kernel_rfl
section
variable {w : World}
theorem plain_one (hM:MethV w):Calls Tryz.prog 23 #[.bool true,.int .i64 1] w (fun e w'=>∃(c:CfP) (cv:Array Value),e=.returned (.agg cv)∧cv.toList.length=23∧cv.all (·.oneCell')=true∧CvP c (cv.setIfInBounds 14 (.int .i64 1))∧(∀V:World,w'.heap.size≤V.heap.size→(∀p:Addr,w.heap.size≤p.block→p.block<w'.heap.size→V.cell? p=w'.cell? p)→c.M V)∧c.err=none∧c.sv=true∧c.lim=1∧c.gr.length≤1000∧c.al.length≤1000∧Below w.heap.size w w'):=by
 refine (cplain_sN hM 1).mono ?_
 rintro e w' ⟨B0,m0,d0,B1,m1,d1,B2,m2,d2,B3,m3,d3,B4,m4,d4,B5,m5,d5,B6,m6,d6,B7,m7,d7,B8,d8,B9,d9,rfl,_,hC,hb⟩
 obtain ⟨_,rfl,h⟩:=conf_box (⟨true,false,false,[112,108,97,105,110],[],[],B0,B1,B2,B3,B4,B5,B6,B7,B8,B9,none,m0,m1,m2,m3,m4,m5,m6,m7,d0,d1,d2,d3,d4,d5,d6,d7,d8,d9,0,[[115,115,104,45,101,100,50,53,53,49,57]],1,1,0,0,0,0,[([97,110,110],8)],[],plainLs⟩:CfP)
 exact ⟨_,#[.bool true,.string ⟨#[112,108,97,105,110]⟩,.string ⟨#[]⟩,.slice B0 m0 d0,.slice B1 m1 d1,.slice B2 m2 d2,.slice B3 m3 d3,.slice B4 m4 d4,.slice B5 m5 d5,.slice B6 m6 d6,.slice B7 m7 d7,.slice B8 1 d8,.int .i64 1,.slice B9 1 d9,.int .i64 3,.int .i64 0,.string ⟨#[]⟩,.slice none 0 0,.bool false,.bool false,.int .u32 0,.int .u32 0,.int .u32 0],rfl,rfl,by simp [Value.oneCell'],h,hC,es_aw,rfl,rfl,(show (1:Nat)≤1000 by decide),(show (1:Nat)≤1000 by decide),hb⟩
theorem awake28_any (hT:Tab w) (hMx:MaxL w) (hMe:MethV w) (hWo:WordV w) (hH:Hand w):Calls Tryz.prog 6 #[] w (fun e w'=>e=.returned (.bool true)∧Below w.heap.size w w'):=by
 have HN:=hide (new_any w)
 have HV:=hide (fun (V:World) (hb:Below w.heap.size w V)=>And.intro (hMe.below hb) (And.intro (hWo.below hb) (hH.below hb)))
 have HT:=hide (And.intro hT hMx)
 clear hT hMx hMe hWo hH
 go_enter Tryz.func6,Tryz.ntmps6
 go_wp2_with fail
 refine HN.out.mono ?_
 rintro e w1 ⟨g,S,rfl,hA,hb1⟩
 have HP:=hide (Pay.new HT.out.1 HT.out.2 (Below.refl _ _) hA hb1)
 have HPl:=hide (plain_one (HV.out _ hb1).1)
 clear hA hb1 HN HT
 go_upto_region 2 with fail
 refine wp_region_lit ?_
 refine wpList_call_ (f:=23) (args:=#[.bool true,.int .i64 1]) rfl (by go_simp) HPl.out ?_
 rintro e w2 ⟨c,cv1,rfl,hl1,ho1,hcv,hC2,hce,hcs,hcl,hgl,hal,hb2⟩
 refine ⟨_,rfl,?_⟩
 try simp only [Act.put,List.setIfInBounds_toArray,List.set_cons_zero,List.set_cons_succ]
 obtain ⟨w3,hw3⟩:∃w3,w3=w2.alloc (.cells zeroC 30):=⟨_,rfl⟩
 have hX3:Blk w3 w2.heap.size 30 zeroC:=by rw [hw3];exact Blk.new w2 _ _
 have hb3:Below w2.heap.size w2 w3:=by rw [hw3];exact bel_newN _
 refine wpList_val (v:=.pointer (some ⟨w2.heap.size,0,none⟩)) (w':=w3) rfl (by rw [hw3];exact allocC _ rfl _ _) ?_
 clear hw3
 try simp only [Act.put,List.setIfInBounds_toArray,List.set_cons_zero,List.set_cons_succ]
 refine wpList_store_conf rfl (.tmp 2) (.tmp 12) rfl (by rfl) (by rfl) hX3 rfl hl1 ho1 ?_
 have hX4:Blk (w3.setCells w2.heap.size 0 cv1.toList) w2.heap.size 30 cv1:=by
  have h9:=Blk.setCells cv1.toList 0 hX3
  rw [wrA_all (by rw [hl1];rfl),Array.toArray_toList] at h9
  exact h9
 have hb4:Below w2.heap.size w2 (w3.setCells w2.heap.size 0 cv1.toList):=below_setCells (Nat.le_refl _) _ _ hb3
 generalize w3.setCells w2.heap.size 0 cv1.toList=w4 at hX4 hb4 ⊢
 try simp only [Act.put,List.setIfInBounds_toArray,List.set_cons_zero,List.set_cons_succ]
 have y14:=hX4.cell 14
 have f14:=hX4.frozen 14
 rw [Array.getElem?_eq_getElem (show 14<cv1.size by have:=hl1;simp at this;omega)] at y14
 obtain ⟨w5,hw5⟩:∃w5,w5=w4.setCell ⟨w2.heap.size,14,none⟩ (.int .i64 1):=⟨_,rfl⟩
 have hX5:=hX4.set_ 14 (.int .i64 1)
 have hb5:Below w2.heap.size w2 (w4.setCell ⟨w2.heap.size,14,none⟩ (.int .i64 1)):=hb4.setCell (p:=⟨w2.heap.size,14,none⟩) (Nat.le_refl _) _
 rw [←hw5] at hX5 hb5
 have hb25:=hb5.size
 have hcel5:∀p:Addr,p.block<w2.heap.size→w5.cell? p=w2.cell? p:=fun p hp=>hb5.cell hp
 have HP5:=hide (HP.out.below (hb2.trans (hb5.mono hb2.size)))
 have nb:¬ S w2.heap.size:=fun h9=>by have h8:=HP.out.ar.sL _ h9;have h7:=hb2.size;omega
 have hb15:=hb2.trans (hb5.mono hb2.size)
 have HC6:=hide (fun (V:World) (S9:Nat→Prop) (hG:Grown S w5 S9 V)=>hC2 V (Nat.le_trans hb25 hG.size) (fun p h1 h2=>((World.cell?_of_block (hG.block p.block (Nat.lt_of_lt_of_le h2 hb25) (fun h9=>by have h8:=HP.out.ar.sL _ h9;omega))).trans (hcel5 p h2))))
 generalize cv1.setIfInBounds 14 (.int .i64 1)=cv at hX5 hcv
 have hl:=hcv.len
 clear hX3 hb3 hX4 hb4 hC2 hb2 hb5 HP HPl ho1 hb25 hcel5
 generalize w2.heap.size=bc at hX5 hw5 y14 f14 nb ⊢
 go_upto_region 3 with fail
 go_upto_region 4 with fail
 rw [←hw5]
 clear hw5 y14 f14 hl1
 have HX5:=hide hX5
 refine wp_region_E (fun V=>Blk V bc 30 cv) (fun i=>decide (i<10)) (by kernel_rfl) ?_
 obtain ⟨Wd,hWd⟩:∃Wd,Wd=w5.drew:=⟨_,rfl⟩
 have hbd:Below w5.heap.size w5 Wd:=by rw [hWd];exact (Below.refl _ _).drew
 have hSd:Blk Wd bc 30 cv:=hX5.below hbd hX5.lt
 have HD:=hide (data_base HP5.out (s:=⟨#[115]⟩) (by decide) (by simp) hbd)
 rw [←hWd]
 clear hWd hX5 hbd
 refine wpAnyE_take (i:=0) (oi:=?_) (v:=.pointer (some ⟨g,0,none⟩)) ?_ ?_ ?_ ?_ ?_ ?_ ?_ hSd ?_
 rotate_left 1
 ·(first | (simp only [List.getElem?_toArray,List.getElem?_cons_succ,List.getElem?_cons_zero];exact rfl) | exact rfl)
 ·kernel_rfl
 ·kernel_rfl
 ·kernel_rfl
 ·kernel_rfl
 ·exact fun _ _ _ h=>h
 ·refine Or.inl ⟨by rfl,fun w hSw=>?_⟩
  clear hSw
  go_simp
 try simp only [Act.put,List.setIfInBounds_toArray,List.set_cons_zero,List.set_cons_succ]
 refine wpAnyE_take (i:=1) (oi:=?_) (v:=.agg cv) ?_ ?_ ?_ ?_ ?_ ?_ ?_ hSd ?_
 rotate_left 1
 ·(first | (simp only [List.getElem?_toArray,List.getElem?_cons_succ,List.getElem?_cons_zero];exact rfl) | exact rfl)
 ·kernel_rfl
 ·kernel_rfl
 ·kernel_rfl
 ·kernel_rfl
 ·exact fun _ _ _ h=>h
 ·exact Or.inl ⟨by rfl,fun w hSw=>load_confA (x:=.tmp 2) _ rfl _ (by rfl) hSw hl⟩
 try simp only [Act.put,List.setIfInBounds_toArray,List.set_cons_zero,List.set_cons_succ]
 refine wpAnyE_take (i:=2) (oi:=?_) (v:=.pointer (some ⟨g,0,none⟩)) ?_ ?_ ?_ ?_ ?_ ?_ ?_ hSd ?_
 rotate_left 1
 ·(first | (simp only [List.getElem?_toArray,List.getElem?_cons_succ,List.getElem?_cons_zero];exact rfl) | exact rfl)
 ·kernel_rfl
 ·kernel_rfl
 ·kernel_rfl
 ·kernel_rfl
 ·exact fun _ _ _ h=>h
 ·refine Or.inl ⟨by rfl,fun w hSw=>?_⟩
  clear hSw
  go_simp
 try simp only [Act.put,List.setIfInBounds_toArray,List.set_cons_zero,List.set_cons_succ]
 refine wpAnyE_ready (rs:=[3]) (by kernel_rfl) (by simp) ?_
 refine AllReadyE.cons (o:=?_) ?_ (fun K hK=>?_) AllReadyE.nil
 rotate_left 1
 ·(first | (simp only [List.getElem?_toArray,List.getElem?_cons_succ,List.getElem?_cons_zero];exact rfl) | exact rfl)
 refine step_callA (f:=25) (by rfl) (by first | rfl | go_simp) HD.out ?_
 rintro e w6 ⟨T6,n6,S6,rfl,hi6,hp6,hl6,hP6,hG6⟩
 refine ⟨_,rfl,?_⟩
 have hS6:Blk w6 bc 30 cv:=(hG6.outs.blk (HX5.out) nb)
 refine hK.out _ _ hS6 (fun _=>?_)
 have HA6:=hide (anew_any c hcv (HV.out _ hP6.bel).1 (HV.out _ hP6.bel).2.1 (HC6.out _ _ hG6) hP6 hi6 (no:=false) ⟨fun h9=>(by rw [data_some (by decide)] at h9;cases h9),fun h9=>(by cases h9)⟩ (fun t h9=>(by rw [data_some (by decide)] at h9;cases h9;show (1:Nat)≠0;decide)))
 clear hK K hi6 hp6 HD
 try simp only [Act.put,List.setIfInBounds_toArray,List.set_cons_zero,List.set_cons_succ]
 refine wpAnyE_ready (rs:=[4]) (by kernel_rfl) (by simp) ?_
 refine AllReadyE.cons (o:=?_) ?_ (fun K hK=>?_) AllReadyE.nil
 rotate_left 1
 ·(first | (simp only [List.getElem?_toArray,List.getElem?_cons_succ,List.getElem?_cons_zero];exact rfl) | exact rfl)
 refine step_callA (f:=24) (by rfl) (by first | rfl | go_simp) HA6.out ?_
 rintro e w7 ⟨p,er,rfl,her,hb7,_,hpo⟩
 refine ⟨_,rfl,?_⟩
 have hE:=newE_o hce hcs (rfl:(false:Bool)=false)
 rw [hE] at her
 have her':er=.nilIface:=her
 subst her'
 obtain ⟨bs_,bg,hi,A9,c9,A8,c8,rfl,hSv⟩:=hpo hE
 have hS7:Blk w7 bc 30 cv:=hS6.below hb7 hS6.lt
 refine hK.out _ _ hS7 (fun _=>?_)
 clear hK K HA6 hpo her
 try simp only [Act.put,List.setIfInBounds_toArray,List.set_cons_zero,List.set_cons_succ]
 refine wpAnyE_take (i:=5) (oi:=?_) (v:=.tuple #[.pointer (some ⟨bs_,0,none⟩),.nilIface]) ?_ ?_ ?_ ?_ ?_ ?_ ?_ hS7 ?_
 rotate_left 1
 ·(first | (simp only [List.getElem?_toArray,List.getElem?_cons_succ,List.getElem?_cons_zero];exact rfl) | exact rfl)
 ·kernel_rfl
 ·kernel_rfl
 ·kernel_rfl
 ·kernel_rfl
 ·exact fun _ _ _ h=>h
 ·refine Or.inl ⟨by rfl,fun w hSw=>?_⟩
  clear hSw
  go_simp
 try simp only [Act.put,List.setIfInBounds_toArray,List.set_cons_zero,List.set_cons_succ]
 refine wpAnyE_take (i:=6) (oi:=?_) (v:=.pointer (some ⟨bs_,0,none⟩)) ?_ ?_ ?_ ?_ ?_ ?_ ?_ hS7 ?_
 rotate_left 1
 ·(first | (simp only [List.getElem?_toArray,List.getElem?_cons_succ,List.getElem?_cons_zero];exact rfl) | exact rfl)
 ·kernel_rfl
 ·kernel_rfl
 ·kernel_rfl
 ·kernel_rfl
 ·exact fun _ _ _ h=>h
 ·refine Or.inl ⟨by rfl,fun w hSw=>?_⟩
  clear hSw
  go_simp
 try simp only [Act.put,List.setIfInBounds_toArray,List.set_cons_zero,List.set_cons_succ]
 refine wpAnyE_take (i:=7) (oi:=?_) (v:=.nilIface) ?_ ?_ ?_ ?_ ?_ ?_ ?_ hS7 ?_
 rotate_left 1
 ·(first | (simp only [List.getElem?_toArray,List.getElem?_cons_succ,List.getElem?_cons_zero];exact rfl) | exact rfl)
 ·kernel_rfl
 ·kernel_rfl
 ·kernel_rfl
 ·kernel_rfl
 ·exact fun _ _ _ h=>h
 ·refine Or.inl ⟨by rfl,fun w hSw=>?_⟩
  clear hSw
  go_simp
 try simp only [Act.put,List.setIfInBounds_toArray,List.set_cons_zero,List.set_cons_succ]
 refine wpAnyE_take (i:=8) (oi:=?_) (v:=.pointer (some ⟨bs_,0,none⟩)) ?_ ?_ ?_ ?_ ?_ ?_ ?_ hS7 ?_
 rotate_left 1
 ·(first | (simp only [List.getElem?_toArray,List.getElem?_cons_succ,List.getElem?_cons_zero];exact rfl) | exact rfl)
 ·kernel_rfl
 ·kernel_rfl
 ·kernel_rfl
 ·kernel_rfl
 ·exact fun _ _ _ h=>h
 ·refine Or.inl ⟨by rfl,fun w hSw=>?_⟩
  clear hSw
  go_simp
 try simp only [Act.put,List.setIfInBounds_toArray,List.set_cons_zero,List.set_cons_succ]
 refine wpAnyE_take (i:=9) (oi:=?_) (v:=.nilIface) ?_ ?_ ?_ ?_ ?_ ?_ ?_ hS7 ?_
 rotate_left 1
 ·(first | (simp only [List.getElem?_toArray,List.getElem?_cons_succ,List.getElem?_cons_zero];exact rfl) | exact rfl)
 ·kernel_rfl
 ·kernel_rfl
 ·kernel_rfl
 ·kernel_rfl
 ·exact fun _ _ _ h=>h
 ·refine Or.inl ⟨by rfl,fun w hSw=>?_⟩
  clear hSw
  go_simp
 try simp only [Act.put,List.setIfInBounds_toArray,List.set_cons_zero,List.set_cons_succ]
 refine wpAnyE_done (by kernel_rfl) ?_ _
 rw [hcl] at hSv
 have HS7:=hide hSv
 have HT1:=hide (show Calls Tryz.prog 10 #[.pointer (some ⟨bs_,0,none⟩),.string ⟨#[5,0,0,0,12,115,115,104,45,117,115,101,114,97,117,116,104]⟩] w7 (TakR w w.heap.size g w6.heap.size hi bs_ bg A9 c9 c.gr A8 c8 c.al 1 n6 (tData ⟨#[115]⟩) T6 S6 w7 (⟨1,0⟩,⟨acceptL,none,none⟩)) from by
  have h9:=take_any HS7.out ⟨#[5,0,0,0,12,115,115,104,45,117,115,101,114,97,117,116,104]⟩ (by decide) (by simp at hl6;omega) (by decide) (by decide) hgl hal (decK (by decide))
  rw [show (⟨#[5,0,0,0,12,115,115,104,45,117,115,101,114,97,117,116,104]⟩:ByteArray).data.toList=svcL from rfl,tak_svc] at h9
  exact h9)
 clear hSv hS6 hS7 hSd hb7 hP6 hG6 HP5 nb
 try simp only [Act.put,List.setIfInBounds_toArray,List.set_cons_zero,List.set_cons_succ]
 go_wp2_with fail
 refine HT1.out.mono ?_
 rintro e w8 ⟨T8,S8,ov,ev,er,rfl,ho,hv,hr,hp8,hl8,hM8,_⟩
 obtain ⟨b8,rfl,hB8⟩:=ho.2 (by decide)
 have hv':ev=.slice none 0 0:=hv
 subst hv'
 have hr':er=.nilIface:=hr
 subst hr'
 have hl6':T6.length≤1:=by simpa using hl6
 have eq2:bs ([50]++putFs (reqF [110,111,110,101]))=(⟨#[50,0,0,0,3,97,110,110,0,0,0,14,115,115,104,45,99,111,110,110,101,99,116,105,111,110,0,0,0,4,110,111,110,101]⟩:ByteArray):=by kernel_rfl
 have HT2:=hide (show Calls Tryz.prog 10 #[.pointer (some ⟨bs_,0,none⟩),.string ⟨#[50,0,0,0,3,97,110,110,0,0,0,14,115,115,104,45,99,111,110,110,101,99,116,105,111,110,0,0,0,4,110,111,110,101]⟩] w8 (LimP w w.heap.size g w6.heap.size hi bs_ bg A9 c9 c.gr A8 c8 c.al 1 n6 (tData ⟨#[115]⟩) T8 0) from by
  have h9:=lim_take (i:=0) (lim:=1) (m:=[110,111,110,101]) (show SrvM w w.heap.size g w6.heap.size hi bs_ bg A9 c9 c.gr A8 c8 c.al 1 n6 (tData ⟨#[115]⟩) T8 S8 (limS 1 0) w8 from hM8) (by decide) (by decide) (by decide) (by omega) hgl hal
  rw [eq2] at h9
  exact h9)
 clear eq2 ho hv hr hp8 hl8 hM8 hB8 HT1 HS7
 go_wp2_with fail
 refine HT2.out.mono ?_
 rintro e w9 ⟨T9,S9,ov9,er9,rfl,ho9,hr9,hl9,hM9⟩
 have hr9':IsErr w9 er9 [authsL,limitL] 12:=by
  rw [show errL 1 0=some ([authsL,limitL],12) from by kernel_rfl] at hr9
  exact hr9
 obtain ⟨b9,v9,rfl,hB9,hi9⟩:=hr9'
 have hi9':IsErr w9 (errV b9) [authsL,limitL] 12:=⟨b9,v9,rfl,hB9,hi9⟩
 have HTo:=hide (show Calls Tryz.prog 9 #[errV b9,.agg #[.int .i64 12,.string ⟨#[97,117,116,104,115,32,108,105,109,105,116,32]⟩]] w9 (fun e w'=>e=.returned (.bool true)∧Below w9.heap.size w9 w') from told28_err (b:=b9) (ps:=[authsL,limitL]) (k:=12) (by decide) (by decide) (by decide) hi9' ((HV.out _ hM9.pay.bel).2.2))
 have Hbl:=hide hM9.pay.bel
 clear ho9 hr9 hl9 hM9 hB9 hi9 hi9' HT2 HV
 unfold errV at HTo ⊢
 go_wp2_with fail
 refine HTo.out.mono ?_
 rintro e w10 ⟨rfl,hb10⟩
 go_wp2_with fail
 go_ret
 exact ⟨rfl,Hbl.out.trans (hb10.mono Hbl.out.size)⟩
end
section
variable {w : World}
theorem authsAccepts_any (hT:Tab w) (hMx:MaxL w) (hMe:MethV w) (hWo:WordV w) (hH:Hand w) (c:CfP) (hc:c.W w) (sid:ByteArray) (hsd:sid.size≤maxLen) {A:Option Addr} {d:Nat} {l:List (List UInt8)} (hl:Txs w (.slice A l.length d) l) (hll:l.length≤maxLen) (hlz:∀x∈l,x.length≤maxLen) :
  Calls Tryz.prog 4 #[.agg (c.cells++#[Value.string sid]),.slice A l.length d] w (fun e w'=>e=.returned (.bool true)∧Below w.heap.size w w'):=by
 obtain ⟨cv,hce,hcv⟩:=conf_box c
 rw [hce]
 clear hce
 obtain ⟨W0,hW0⟩:∃W0,W0=w.alloc (.cells (cv++#[Value.string sid]) 32):=⟨_,rfl⟩
 have hb0:Below w.heap.size w W0:=by rw [hW0];exact bel_newF _
 have hX:StB W0 w.heap.size cv sid:=⟨by rw [hW0];exact Blk.new w _ _,hcv.len⟩
 have HF:=hide (few28_any c (hc.below hb0) hcv sid hsd (hl.below hb0) hll hlz)
 have HAw:=hide (fun (V:World) (hb:Below w.heap.size w V)=>awake28_any (hT.below hb) (hMx.below hb) (hMe.below hb) (hWo.below hb) (hH.below hb))
 have HV:=hide (fun (V:World) (hb:Below w.heap.size w V)=>And.intro (And.intro (hT.below hb) (hMx.below hb)) (And.intro (hMe.below hb) (And.intro (hWo.below hb) (And.intro (hH.below hb) (And.intro (hc.below hb) (hl.below hb))))))
 have p0:=hcv.p0
 have p14:=hcv.p14
 have Hcv:=hide hcv
 have HX:=hide (And.intro hb0 hX)
 generalize hcx:cv++#[Value.string sid]=cx at hW0 HF
 clear hT hMx hMe hWo hH hc hl hcv hb0
 cases hf:fewM c sid l with
 | false =>
  rw [hf] at HF
  clear hf hX p0 p14
  go_enter Tryz.func4,Tryz.ntmps4
  go_upto_region 1 with fail
  rw [←hW0]
  clear hW0
  have hX:=HX.out.2
  refine wp_region_lit ?_
  refine wpList_load_st (by rfl) (.tmp 2) rfl (by rfl) hX ?_
  rw [hcx]
  try simp only [Act.put,List.setIfInBounds_toArray,List.set_cons_zero,List.set_cons_succ]
  refine wpList_valG (v:=.slice A l.length d) (w':=W0) (by rfl) (by first | rfl | go_simp) ?_
  try simp only [Act.put,List.setIfInBounds_toArray,List.set_cons_zero,List.set_cons_succ]
  refine wpList_callG (f:=5) (by rfl) (by first | rfl | go_simp) HF.out ?_
  rintro e w1 ⟨rfl,hb1⟩
  refine ⟨_,rfl,?_⟩
  try simp only [Act.put,List.setIfInBounds_toArray,List.set_cons_zero,List.set_cons_succ]
  have Hb1:=hide (HX.out.1.trans (hb1.mono HX.out.1.size))
  clear hb1 hX HF HX hcx
  go_wp2_with fail
  refine (HAw.out _ Hb1.out).mono ?_
  rintro e w2 ⟨rfl,hb2⟩
  go_wp2_with fail
  go_ret
  exact ⟨rfl,Hb1.out.trans (hb2.mono Hb1.out.size)⟩
 | true =>
  rw [hf] at HF
  have hfw:l.length≤20∧c.fw=true∧sid.size≤300∧∀x∈l,x.length≤3000:=by
   unfold fewM at hf
   simp only [Bool.and_eq_true,decide_eq_true_eq] at hf
   exact ⟨hf.1.1.1,hf.1.1.2,hf.1.2,fun x hx=>by have:=List.all_eq_true.1 hf.2 x hx;simpa using this⟩
  have hal:=CfP.fw_len hfw.2.1
  clear hf hX
  go_enter Tryz.func4,Tryz.ntmps4
  go_upto_region 1 with fail
  rw [←hW0]
  clear hW0
  have hX:=HX.out.2
  refine wp_region_lit ?_
  refine wpList_load_st (by rfl) (.tmp 2) rfl (by rfl) hX ?_
  rw [hcx]
  try simp only [Act.put,List.setIfInBounds_toArray,List.set_cons_zero,List.set_cons_succ]
  refine wpList_valG (v:=.slice A l.length d) (w':=W0) (by rfl) (by first | rfl | go_simp) ?_
  try simp only [Act.put,List.setIfInBounds_toArray,List.set_cons_zero,List.set_cons_succ]
  refine wpList_callG (f:=5) (by rfl) (by first | rfl | go_simp) HF.out ?_
  rintro e w1 ⟨rfl,hb1⟩
  refine ⟨_,rfl,?_⟩
  try simp only [Act.put,List.setIfInBounds_toArray,List.set_cons_zero,List.set_cons_succ]
  have hb01:=HX.out.1.trans (hb1.mono HX.out.1.size)
  have HX1:=hide (HX.out.2.below hb1)
  have hlt:w.heap.size<w1.heap.size:=HX1.out.blk.lt
  have HN:=hide (new_any w1)
  have Hb1:=hide hb01
  clear hb1 hb01 hX HF HX
  go_upto_region 4 with (first
   | (go_at_call 7;refine HN.out.mono ?_;rintro e w2 ⟨g,S,rfl,hA,hb2⟩)
   | fail)
  have HP:=hide (Pay.new (HV.out _ Hb1.out).1.1 (HV.out _ Hb1.out).1.2 (Below.refl _ _) hA hb2)
  have hX2:=HX1.out.below hb2
  have hb12:=Hb1.out.trans (hb2.mono Hb1.out.size)
  have HS:=hide (setnew_any c Hcv.out (HV.out _ Hb1.out).2.1 (HV.out _ Hb1.out).2.2.1 ((HV.out _ Hb1.out).2.2.2.2.1.m hfw.2.1) (HV.out _ Hb1.out).2.2.2.2.1.u0 (HV.out _ Hb1.out).2.2.2.2.1.u1 (HV.out _ Hb1.out).2.2.2.2.1.u2 HP.out (by simp) sid hfw.2.2.1)
  have hltg:w.heap.size<w2.heap.size:=hX2.blk.lt
  clear hA hb2 HN
  refine wp_region_lit ?_
  refine wpList_load_st (by rfl) (.tmp 2) rfl (by rfl) hX2 ?_
  rw [hcx]
  try simp only [Act.put,List.setIfInBounds_toArray,List.set_cons_zero,List.set_cons_succ]
  refine wpList_valG (v:=.pointer (some ⟨g,0,none⟩)) (w':=w2) (by rfl) (by first | rfl | go_simp) ?_
  try simp only [Act.put,List.setIfInBounds_toArray,List.set_cons_zero,List.set_cons_succ]
  rw [←hcx]
  refine wpList_callG (f:=8) (by rfl) (by first | rfl | go_simp) HS.out ?_
  rintro e w3 ⟨n,p,er,bq,y,T3,S3,rfl,hy,hR⟩
  refine ⟨_,rfl,?_⟩
  try simp only [Act.put,List.setIfInBounds_toArray,List.set_cons_zero,List.set_cons_succ]
  have HR:=hide hR
  clear hR hy HS hX2 hb12 hcx cx
  generalize cv++#[Value.string sid]=cy
  generalize errK (newE c (sid.toList == ([]:List UInt8)))=kk
  rcases or_opt (newE c (sid.toList == ([]:List UInt8))) with he | ⟨⟨ps,k⟩,he⟩
  ·have her:=HR.out.er
   rw [he] at her
   have her':er=.nilIface:=her
   subst her'
   obtain ⟨hce,hcs,hcn⟩:=newE_n he
   obtain ⟨lo,hi,bs_,bg,A9,c9,A8,c8,hlo,hhi,rfl,hM3⟩:=HR.out.ok he
   have hlim:=deny_lim (c.deny hce hcs)
   obtain ⟨w4,hw4⟩:∃W4,W4=w3.alloc (.cells #[.int .i64 kk,.string y] 44):=⟨_,rfl⟩
   have hb4:Below w3.heap.size w3 w4:=by rw [hw4];exact bel_newF _
   have hM4:=hM3.below hb4
   have hl3:T3.length≤2:=by have:=HR.out.len;simpa using this
   have HM4:=hide hM4
   clear hM3 hb4 hM4 her hce hcs hcn HR he hhi hlo
   go_upto_region 5 with fail
   rw [←hw4]
   clear hw4
   go_wp2_with fail
   go_loopw [11,12] (fun vm vi wr=>∃(i many:Nat) (T:List Tm) (S':Nat→Prop) (s:SvS),vm=.int .i64 many∧vi=.int .i64 i∧i≤l.length∧Hid (SrvM w1 w1.heap.size g lo hi bs_ bg A9 c9 c.gr A8 c8 c.al c.lim n (sidO sid) T S' s wr)∧Hid (AccI c.lim s many)∧T.length≤capA i) (fun _ vi _=>l.length - (intOf vi).toNat)
   case atStart=>exact ⟨0,0,T3,S3,⟨0,0⟩,rfl,rfl,Nat.zero_le _,HM4,hide ⟨by show ((0:Nat):Int)≤_;omega,fun _=>by show ((0:Nat):Int)<_;omega,Nat.zero_le _,fun _=>rfl⟩,by unfold capA;omega⟩
   case round =>
    obtain ⟨i,many,T,S',s,rfl,rfl,hi',HM,HI,hcap⟩:=hrel
    have hcs:=capA_succ i
    have hcl:=capA_lim (i:=i) (by omega)
    have hbr:=HM.out.pay.bel
    clear HM4 hl3
    by_cases hlt2:i<l.length
    ·have hii:(i:Int)<l.length:=by omega
     obtain ⟨A',d',hv,hA⟩:=((HV.out _ Hb1.out).2.2.2.2.2).open_
     obtain ⟨rfl,rfl⟩:A'=A∧d'=d:=by injection hv with e1 _ e2;exact ⟨e1.symm,e2.symm⟩
     obtain ⟨ad,rfl,hab,hc1⟩:=hA i hlt2
     have hlzi:=hfw.2.2.2 l[i] (List.getElem_mem hlt2)
     generalize l[i]=m at hc1 hlzi
     have hfle:s.fl≤1000:=by have:=HI.out.fle;omega
     have HIn:=hide (ain_any HM.out)
     have HT:=hide (takes_all HM.out (bs m) hlzi (by omega) HI.out.fl hfle (by omega) (by omega))
     rw [show (bs m).data.toList=m from bs_data m] at HT
     have HIx:=hide (acc_take (gr:=c.gr) (al:=c.al) (sid:=sidO sid) HI.out m)
     generalize takA c.gr c.al c.lim (sidO sid) s m=o at HT HIx
     have Hm:=hide hlzi
     generalize hbm:bs m=x at hc1 HT
     have Hx:=hide hbm
     have hc2:=(hbr.cell (by rw [block_of_add];exact hab)).trans hc1
     have Hc1:=hide (And.intro hab hc1)
     clear hA hv hlzi hbm hab hc1
     go_upto_region 13 with (first
      | (go_at_call 11;refine HIn.out.mono ?_;rintro e w6 ⟨rfl,rfl⟩)
      | (go_at_call 10;refine HT.out.mono ?_;rintro e w7 ⟨T7,S7,ov,ev,er,rfl,ho,hev,hr,hp7,hl7,hM7,hG7⟩)
      | fail)
     have HM7:=hide hM7
     have hbw7:=hM7.pay.bel
     have x14:=(HX1.out.below hbw7).at_ p14
     rcases HIx.out with ⟨he,hI,hph⟩ | ⟨y6,he,h1,hm0,hI,ho1,hfl,l50,hd,hP⟩
     ·rw [he] at hev
      have hev':ev=.slice none 0 0:=hev
      subst hev'
      have HI7:=hide hI
      have hcap7:T7.length≤capA (i+1):=by omega
      have hg:¬ c.lim<((o.1.fl:Nat):Int):=by have:=hI.fle;omega
      have G1:=hide (fun dd oo=>Calls.regrown_of ((afs_any (HM7.out.below (below_regrown w7 dd oo))).mono fun e w' h9=>(⟨h9.1,by rw [←h9.2];exact Below.refl _ _⟩:e=.returned (.int .i64 ((o.1.fl:Nat):Int))∧Below _ _ w')))
      have G2:=hide (fun dd oo=>Calls.regrown_of ((ain_any (HM7.out.below (below_regrown w7 dd oo))).mono fun e w' h9=>(⟨h9.1,by rw [←h9.2];exact Below.refl _ _⟩:e=.returned (.bool (decide (o.1.ph=2)))∧Below _ _ w')))
      have x14q:=fun dd oo=>cell_regrown (v:=.int .i64 c.lim) x14 dd oo
      have hwz:decide (o.1.ph=2)=true→decide (s.ph=2)=true:=fun h9=>decide_eq_true (hph (of_decide_eq_true h9))
      generalize decide (o.1.ph=2)=oz at G2 hwz
      generalize ((o.1.fl:Nat):Int)=fo at G1 hg
      clear hev hr ho hM7 hG7 hp7 hl7 HIx hI hph x14 he HM HIn HT
      cases hwc:decide (s.ph=2) with
      | true =>
       refine wp_region_quiet_below (by kernel_rfl) (by kernel_rfl) ?_
       repeat (first | go_big_quiet_skip | quiet_step ((first | (go_at_call 12;with_reducible exact G1.out _ _) | (go_at_call 11;with_reducible exact G2.out _ _) | fail)))
       refine wpQuiet_nil ?_
       intro _ hwq
       obtain ⟨⟨dq,osq⟩,hwqq⟩:=hwq
       subst hwqq
       have hbq:=below_regrown w7 dq osq
       generalize grow (redrawn w7 dq) osq=wq at hbq ⊢
       clear x14q G1 G2
       go_wp2_with fail
       exact ⟨⟨i+1,many,T7,S7,o.1,rfl,by go_num,by omega,hide (HM7.out.below hbq),HI7,hcap7⟩,by simp [intOf];omega⟩
      | false =>
       have hoz:oz=false:=by
        cases oz with
        | false=>rfl
        | true=>rw [hwz rfl] at hwc;cases hwc
       subst hoz
       refine wp_region_quiet_below (by kernel_rfl) (by kernel_rfl) ?_
       repeat (first | go_big_quiet_skip | quiet_step ((first | (go_at_call 12;with_reducible exact G1.out _ _) | (go_at_call 11;with_reducible exact G2.out _ _) | fail)))
       refine wpQuiet_nil ?_
       intro _ hwq
       obtain ⟨⟨dq,osq⟩,hwqq⟩:=hwq
       subst hwqq
       have hbq:=below_regrown w7 dq osq
       generalize grow (redrawn w7 dq) osq=wq at hbq ⊢
       clear x14q G1 G2
       go_wp2_with fail
       exact ⟨⟨i+1,many,T7,S7,o.1,rfl,by go_num,by omega,hide (HM7.out.below hbq),HI7,hcap7⟩,by simp [intOf];omega⟩
     ·obtain ⟨hl7x,hyx,hcx2,hhas,hsg⟩:=hP
      have hev2:EvV w7 n (some (whoO (ofT (atF l50 5).s),(atF l50 0).s,(atF l50 4).s)) connectL ev:=by rw [←hyx,← he];exact hev
      clear hev
      obtain ⟨eb,rfl,hEv⟩:=hev2
      have HEv:=hide hEv
      have HI7:=hide hI
      have HP5:=hide (And.intro hd (And.intro hl7x (And.intro hcx2 (And.intro hhas hsg))))
      have hcap7:T7.length≤capA i+15000:=by omega
      have hg:¬ c.lim<((o.1.fl:Nat):Int):=by have:=hI.fle;omega
      have hg2:((o.1.fl:Nat):Int)<c.lim:=by rw [ho1];exact hfl
      have G1:=hide (fun dd oo=>Calls.regrown_of ((afs_any (HM7.out.below (below_regrown w7 dd oo))).mono fun e w' h9=>(⟨h9.1,by rw [←h9.2];exact Below.refl _ _⟩:e=.returned (.int .i64 ((o.1.fl:Nat):Int))∧Below _ _ w')))
      have G2:=hide (fun dd oo=>Calls.regrown_of ((ain_any (HM7.out.below (below_regrown w7 dd oo))).mono fun e w' h9=>(⟨h9.1,by rw [←h9.2];exact Below.refl _ _⟩:e=.returned (.bool (decide (o.1.ph=2)))∧Below _ _ w')))
      rw [show decide (o.1.ph=2)=true from by rw [ho1];rfl] at G2
      have hwc:decide (s.ph=2)=false:=by rw [h1];rfl
      have x14q:=fun dd oo=>cell_regrown (v:=.int .i64 c.lim) x14 dd oo
      have HFl:=hide hg2
      have HFs:=hide (fun (V:World) (hb:Below w7.heap.size w7 V)=>afs_any (HM7.out.below hb))
      generalize ((o.1.fl:Nat):Int)=fo at G1 hg HFl HFs
      subst hm0
      clear hr ho hM7 hG7 hp7 hl7 HIx hI x14 he HM HIn HT ho1 hfl hd hl7x hcx2 hhas hsg hEv hg2
      refine wp_region_quiet_below (by kernel_rfl) (by kernel_rfl) ?_
      repeat (first | go_big_quiet_skip | quiet_step ((first | (go_at_call 12;with_reducible exact G1.out _ _) | (go_at_call 11;with_reducible exact G2.out _ _) | fail)))
      refine wpQuiet_nil ?_
      intro _ hwq
      obtain ⟨⟨dq,osq⟩,hwqq⟩:=hwq
      subst hwqq
      have hbq:=below_regrown w7 dq osq
      generalize grow (redrawn w7 dq) osq=wq at hbq ⊢
      clear x14q G1 G2
      have hEvq:=HEv.out.below hbq HEv.out.lt
      obtain ⟨ec,hec,hecl,hec1,p3,p4,p6,p7⟩:=ev_box (whoO (ofT (atF l50 5).s)) (bs (atF l50 0).s) (bs connectL) (bs (atF l50 4).s) n
      rw [hec] at hEvq
      go_upto_region 17 with fail
      refine wp_region_lit ?_
      refine wpList_valG (v:=.slice (some ⟨eb,0,none⟩) 1 1) (w':=wq) (by rfl) (by first | rfl | go_simp) ?_
      try simp only [Act.put,List.setIfInBounds_toArray,List.set_cons_zero,List.set_cons_succ]
      refine wpList_valG (v:=.pointer (some ⟨eb,0,none⟩)) (w':=wq) (by rfl) (by first | rfl | go_simp) ?_
      try simp only [Act.put,List.setIfInBounds_toArray,List.set_cons_zero,List.set_cons_succ]
      refine wpList_load_mid rfl 66 (.tmp 94) rfl eb 0 (by rfl) ec.toList _ (rangeC (by rw [Array.toArray_toList];exact hEvq)) Tryz.underlying66 rfl (by rw [hecl];exact infoEvt) ?_
      rw [Array.toArray_toList]
      try simp only [Act.put,List.setIfInBounds_toArray,List.set_cons_zero,List.set_cons_succ]
      obtain ⟨wz,hwz⟩:∃W,W=wq.alloc (.cells evZ 66):=⟨_,rfl⟩
      refine wpList_val (v:=.pointer (some ⟨wq.heap.size,0,none⟩)) (w':=wz) rfl (by rw [hwz];exact allocEv _ rfl _ _) ?_
      try simp only [Act.put,List.setIfInBounds_toArray,List.set_cons_zero,List.set_cons_succ]
      have hXz:Blk wz wq.heap.size 66 evZ:=by rw [hwz];exact Blk.new wq _ _
      have hbz:Below wq.heap.size wq wz:=by rw [hwz];exact bel_newN _
      have hecs:ec.size=34:=by simpa using hecl
      refine wpList_store_mid rfl 66 (.tmp 17) (.tmp 95) rfl wq.heap.size 0 ec (by rfl) (by rfl) (blk_there hXz (by rw [hecs];exact Nat.le_refl 34)) (by rw [hecs];exact infoEvt) hec1 ?_
      have hE8:Blk (wz.setCells wq.heap.size 0 ec.toList) wq.heap.size 66 ec:=by
       have h9:=Blk.setCells ec.toList 0 hXz
       rw [wrA_all (by rw [hecl];rfl),Array.toArray_toList] at h9
       exact h9
      have hb8:Below wq.heap.size wq (wz.setCells wq.heap.size 0 ec.toList):=below_setCells (Nat.le_refl _) _ _ hbz
      generalize wz.setCells wq.heap.size 0 ec.toList=w8 at hE8 hb8 ⊢
      clear hwz hXz hbz hEvq
      try simp only [Act.put,List.setIfInBounds_toArray,List.set_cons_zero,List.set_cons_succ]
      go_upto_region 18 with fail
      have hbq0:=hbq
      have hb78:Below w7.heap.size w7 w8:=hbq.trans (hb8.mono hbq.size)
      have hbw8:=hbw7.trans (hb78.mono hbw7.size)
      have hc8:=(hbw8.cell (by rw [block_of_add];exact Hc1.out.1)).trans Hc1.out.2
      have hx9:x.data.toList=m:=by rw [←Hx.out];exact bs_data m
      have HD:=hide (show Calls Tryz.prog 15 #[.string x] w8 (fun e w'=>Below w8.heap.size w8 w'∧∃A c,e=.returned (.tuple #[.agg #[.int .i64 50,.slice A 7 c],.nilIface])∧FldsN w8.heap.size w' A l50) from
       (decode_anyN x (by rw [←Hx.out];show m.length≤_;have:=Hm.out;omega) (HM7.out.below hb78).pay.max.maxL).mono fun e w' h9=>by
        obtain ⟨hb9,⟨num,l',A,c,hd,rfl,hF⟩ | ⟨b,ps,k,hk,rfl,hi9⟩⟩:=h9
        ·rw [hx9,HP5.out.1] at hd
         cases hd
         rw [HP5.out.2.1]
         exact ⟨hb9,A,c,rfl,hF⟩
        ·rw [hx9,HP5.out.1] at hk
         cases hk)
      have HE8:=hide hE8
      have HS8:=hide (show ∀k,S7 k→k<w8.heap.size from (HM7.out.below hb78).pay.ar.sL)
      clear hbq hb8 hE8 hx9
      go_wp2_with fail
      refine HD.out.mono ?_
      rintro e w9 ⟨hb9,A5,c5,rfl,hF9⟩
      obtain ⟨w10,hw10⟩:∃W10,W10=w9.alloc (.cells #[.int .i64 50,.slice A5 7 c5] 69):=⟨_,rfl⟩
      have hb10:Below w9.heap.size w9 w10:=by rw [hw10];exact bel_newF _
      have hX10:Blk w10 w9.heap.size 69 #[.int .i64 50,.slice A5 7 c5]:=by rw [hw10];exact Blk.new w9 _ _
      have hb810:Below w8.heap.size w8 w10:=hb9.trans (hb10.mono hb9.size)
      have hb710:Below w7.heap.size w7 w10:=hb78.trans (hb810.mono hb78.size)
      have hF10:=hF9.below hb10
      have HM10:=hide (HM7.out.below hb710)
      have hE10:=HE8.out.below hb810 HE8.out.lt
      have x14:=(HX1.out.below (hbw7.trans (hb710.mono hbw7.size))).at_ p14
      have m0:=hX10.cell 0
      have m1:=hX10.cell 1
      simp only [List.getElem?_toArray,List.getElem?_cons_zero,List.getElem?_cons_succ] at m0 m1
      have x14q:=fun dd oo=>cell_regrown (v:=.int .i64 c.lim) x14 dd oo
      have m0q:=fun dd oo=>cell_regrown (v:=.int .i64 50) m0 dd oo
      have m1q:=fun dd oo=>cell_regrown (v:=.slice A5 7 c5) m1 dd oo
      have G1:=hide (fun dd oo=>Calls.regrown_of ((HFs.out _ (hb710.trans ((below_regrown w10 dd oo).mono hb710.size))).mono fun e w' h9=>(⟨h9.1,by rw [←h9.2];exact Below.refl _ _⟩:e=.returned (.int .i64 fo)∧Below _ _ w')))
      have HB8:=hide (And.intro hb78 hb810)
      have HS7:=hide (show ∀k,S7 k→k<w7.heap.size from HM7.out.pay.ar.sL)
      have HSz:=hide (And.intro hbq0.size (Nat.le_trans hb78.size hb9.size))
      have HF10:=hide hF10
      have HX10:=hide hX10
      have HE10:=hide hE10
      clear hbq0 hbw8 hb9 hb10 hb810 hb710 hF9 hF10 hX10 hE10 m0 m1 x14 HD hc8 HM7 HE8 HFs
      have hfo:=HFl.out
      have hge:decide (c.lim≤fo)=false:=by rw [decide_eq_false_iff_not];omega
      have hge2:decide (fo<c.lim)=true:=by rw [decide_eq_true_eq];omega
      go_upto_region 19 with fail
      rw [←hw10]
      clear hw10
      refine wp_region_quiet_below (by kernel_rfl) (by kernel_rfl) ?_
      repeat (first | go_big_quiet_skip | quiet_step ((first | (go_at_call 12;with_reducible exact G1.out _ _) | fail)))
      refine wpQuiet_nil ?_
      intro _ hwq
      obtain ⟨⟨dr,osr⟩,hwrr⟩:=hwq
      subst hwrr
      have hb11:=below_regrown w10 dr osr
      generalize grow (redrawn w10 dr) osr=w11 at hb11 ⊢
      clear x14q m0q m1q G1
      have hE11:=HE10.out.below hb11 HE10.out.lt
      have hX11:=HX10.out.below hb11 HX10.out.lt
      have hbw11:Below w7.heap.size w7 w11:=HB8.out.1.trans ((HB8.out.2.trans (hb11.mono HB8.out.2.size)).mono HB8.out.1.size)
      have HM11:=hide (HM10.out.below hb11)
      have HF11:=hide (HF10.out.below hb11)
      obtain ⟨ad5,rfl,had5⟩:=fld_some HF11.out.flds (by rw [HP5.out.2.1];decide)
      have nbe:¬ S7 wq.heap.size:=fun h9=>by have:=HS7.out _ h9;have:=HSz.out.1;omega
      have nbm:¬ S7 w9.heap.size:=fun h9=>by have:=HS7.out _ h9;have:=HSz.out.2;omega
      have e3:=(Blk.cell hE11 3).trans p3
      have e4:=(Blk.cell hE11 4).trans p4
      have e6:=(Blk.cell hE11 6).trans p6
      have e7:=(Blk.cell hE11 7).trans p7
      have m1:=hX11.cell 1
      simp only [List.getElem?_toArray,List.getElem?_cons_zero,List.getElem?_cons_succ] at m1
      have HKF:=hide (fun (S':Nat→Prop) (W':World) (hG:Grown S7 w11 S' W')=>show (W'.cell? ⟨w9.heap.size,1,none⟩=some (.slice (some ad5) 7 c5)∧W'.cell? ⟨ad5.block,ad5.off+2,none⟩=some (.string (bs (atF l50 0).s))∧W'.cell? ⟨ad5.block,ad5.off+16+2,none⟩=some (.string (bs (atF l50 4).s))∧W'.cell? ⟨ad5.block,ad5.off+20+2,none⟩=some (.string (bs (atF l50 5).s))∧W'.cell? ⟨ad5.block,ad5.off+24+2,none⟩=some (.string (bs (atF l50 6).s))∧W'.cell? ⟨wq.heap.size,4,none⟩=some (.string (bs (atF l50 0).s))∧W'.cell? ⟨wq.heap.size,6,none⟩=some (.string (bs (atF l50 4).s))∧W'.cell? ⟨wq.heap.size,7,none⟩=some (.int .i64 n)) from by
       have hF:=flds_keepA HF11.out hG HS8.out
       have f0:=(fld_get hF (i:=0) (by rw [HP5.out.2.1];decide) rfl).2
       have f4:=(fld_get hF (i:=4) (by rw [HP5.out.2.1];decide) rfl).2
       have f5:=(fld_get hF (i:=5) (by rw [HP5.out.2.1];decide) rfl).2
       have f6:=(fld_get hF (i:=6) (by rw [HP5.out.2.1];decide) rfl).2
       simp only [Nat.reduceMul,Nat.zero_mul,Nat.add_zero] at f0 f4 f5 f6
       exact ⟨hG.outs.cell m1 nbm,f0,f4,f5,f6,hG.outs.cell e4 nbe,hG.outs.cell e6 nbe,hG.outs.cell e7 nbe⟩)
      have HE3:=hide (fun (S':Nat→Prop) (W':World) (hG:Grown S7 w11 S' W')=>hG.outs.cell e3 nbe)
      have hl5:(atF l50 5).s.length≤3100∧(atF l50 6).s.length≤3100∧(atF l50 0).s.length≤3100∧(atF l50 1).s.length≤3100∧(atF l50 4).s.length≤3100:=by
       have h9:=(decK (p:=m) (by have:=Hm.out;omega)).1 50 l50 HP5.out.1
       exact ⟨h9.2 5,h9.2 6,h9.2 0,h9.2 1,h9.2 4⟩
      have hkf:fineO (ofT (atF l50 5).s):=by
       obtain ⟨t,ht,hf,_⟩:=ofT_yes (s:=(atF l50 5).s) (by omega)
       rw [ht]
       exact fineO_some hf
      have hpb:isPb (ofT (atF l50 5).s)=true:=by
       have h9:=HP5.out.2.2.2.1
       unfold hasG at h9
       simp only [Bool.and_eq_true] at h9
       exact h9.1
      have hpub:=pub_of hkf hpb
      have HKey:=hide (fun (V:World) (hb:Below w11.heap.size w11 V)=>(aKey_any (HM11.out.pay.use.below hb) (whoO (ofT (atF l50 5).s):Nat)).mono fun e w' hd=>DoneF.y HM11.out.pay hb (by omega) hd.f)
      generalize hwho:((whoO (ofT (atF l50 5).s):Nat):Int)=who at e3 HE3 HKey
      have Hwho:=hide hwho
      rw [hwho] at hpub
      clear hwho m1 e4 e6 e7 hE11 hX11 hpb
      go_upto_region 21 with fail
      go_wp2_with fail
      refine (HKey.out _ (Below.refl _ _)).mono ?_
      rintro e w12 ⟨T12,n12,S12,rfl,hi12,hp12,hl12,hP12,hG12⟩
      have HPub:=hide (show Calls Tryz.prog 16 #[.pointer (some ⟨g,0,none⟩),.int .i64 n12] w12 (DoneY w1 w1.heap.size g T12 S12 w12 (ofT (atF l50 5).s) 1) from by
       have h9:=aPub_any hP12.use n12
       rw [hi12.1,← hpub] at h9
       exact h9.mono fun e w' hd=>DoneF.y hP12 (Below.refl _ _) (by omega) hd.f)
      clear e3 HKey
      go_wp2_with fail
      refine HPub.out.mono ?_
      rintro e w13 ⟨T13,n13,S13,rfl,hi13,hp13,hl13,hP13,hG13⟩
      have hG13:=hG12.trans hG13
      have hp13:=hp12.trans hp13
      have hl13:T13.length≤T7.length+2:=by omega
      have Hl13:=hide hl13
      have hT13:T13.length≤650000:=by omega
      have HP13:=hide hP13
      have HI13:=hide hi13
      have HG13:=hide hG13
      have Hp13:=hide hp13
      have HO5:=hide (fun (V:World) (hb:Below w13.heap.size w13 V)=>show Calls Tryz.prog 18 #[.pointer (some ⟨g,0,none⟩),.string (bs (atF l50 5).s)] V (fun e w'=>e=.returned (.int .i64 n13)∧∃T' S',T13 <+: T'∧T'.length≤T13.length+6201∧Pay w1 w1.heap.size g T' S' w'∧Grown S13 w13 S' w') from
       (fldOf_any (hP13.use.below hb) (bs (atF l50 5).s) (by show (atF l50 5).s.length≤_;omega) (by omega)).mono fun e w' hd=>by
        obtain ⟨T',n',S',e1,e2,e3,e4,e5,e6⟩:=DoneF.y hP13 hb (m:=6201) (by omega) (hd.mono (by show 2*(atF l50 5).s.length+1≤_;omega))
        rw [bs_data] at e2
        obtain rfl:=(Idn.eq_iff e5.ar.ok e2 (HI13.out.pre e3)).2 rfl
        exact ⟨e1,T',S',e3,e4,e5,e6⟩)
      have HO6:=hide (fun (T':List Tm) (S':Nat→Prop) (W':World) (hP:Pay w1 w1.heap.size g T' S' W') (hT:T'.length≤800000) (V:World) (hb:Below W'.heap.size W' V)=>show Calls Tryz.prog 18 #[.pointer (some ⟨g,0,none⟩),.string (bs (atF l50 6).s)] V (DoneY w1 w1.heap.size g T' S' W' (ofT (atF l50 6).s) 6201) from
       (fldOf_any (hP.use.below hb) (bs (atF l50 6).s) (by show (atF l50 6).s.length≤_;omega) (by omega)).mono fun e w' hd=>by
        have h9:=DoneF.y hP hb (m:=6201) (by omega) (hd.mono (by show 2*(atF l50 6).s.length+1≤_;omega))
        rwa [bs_data] at h9)
      have HCk:=hide (fun (T':List Tm) (S':Nat→Prop) (W':World) (n6:Int) (hP:Pay w1 w1.heap.size g T' S' W') (hp:T13 <+: T') (h6:Idn T' (ofT (atF l50 6).s) n6) (hT:T'.length≤800000) (V:World) (hb:Below W'.heap.size W' V)=>show Calls Tryz.prog 19 #[.pointer (some ⟨g,0,none⟩),.int .i64 n,.string (bs (atF l50 0).s),.string ⟨#[115,115,104,45,99,111,110,110,101,99,116,105,111,110]⟩,.string (bs (atF l50 4).s),.int .i64 n13,.int .i64 n6] V (fun e w'=>e=.returned .nilIface∧∃T'' S'',T' <+: T''∧T''.length≤T'.length+11∧Pay w1 w1.heap.size g T'' S'' w'∧Grown S' W' S'' w') from
       (checkUser_any (hP.use.below hb) (HM11.out.id.pre (Hp13.out.trans hp)) (HI13.out.pre hp) h6 (user:=bs (atF l50 0).s) (service:=⟨#[115,115,104,45,99,111,110,110,101,99,116,105,111,110]⟩) (alg:=bs (atF l50 4).s) (by show (atF l50 0).s.length≤_;omega) (by decide) (by show (atF l50 4).s.length≤_;omega) (by omega)).mono fun e w' hC=>by
        obtain ⟨T'',S'',v,e1,e2,e3,e4,e5,e6⟩:=hC
        have hs:chkS (isPb (ofT (atF l50 5).s)=false) (ofT (atF l50 6).s=none∨ofT (atF l50 6).s≠userO (sidO sid) (bs (atF l50 0).s) ⟨#[115,115,104,45,99,111,110,110,101,99,116,105,111,110]⟩ (bs (atF l50 4).s) (whoO (ofT (atF l50 5).s)))=⟨#[]⟩:=by
         have h9:=HP5.out.2.2.2.2
         rw [HP5.out.2.2.1] at h9
         exact h9
        obtain rfl:=errIs_no e6 hs
        exact ⟨e1,T'',S'',e2,e3,(hP.below hb).grown e5 e4 (by omega),(Grown.of_below (S:=S') hb).trans e5⟩)
      have HHas:=hide (fun (V:World) (hb:Below w1.heap.size w1 V)=>show Calls Tryz.prog 20 #[.slice c.A9 c.gr.length c.c9,.slice c.A8 c.al.length c.c8,.string (bs (atF l50 0).s),.string (bs (atF l50 4).s),.string (bs (txt (tPub (tKey who))))] V (fun e w'=>e=.returned (.bool true)∧Below V.heap.size V w') from by
       have hC:=((HV.out _ Hb1.out).2.2.2.2.1.below hb).cw
       have h9:=rhas24_any (c9:=c.c9) hC.hgr hC.hal hkf (atF l50 0).s (atF l50 4).s (by omega) (by omega)
       rw [HP5.out.2.2.2.1,hpub] at h9
       exact h9)
      have HRp:=hide (fun (V:World)=>show Calls Tryz.prog 21 #[.int .i64 who] V (fun e w'=>e=.returned (.string (bs (txt (tPub (tKey who)))))∧Below V.heap.size V w') from rPub22_any who V)
      generalize bs (txt (tPub (tKey who)))=kx at HHas HRp
      obtain ⟨m1,f0,f4,f5,f6,e4,e6,e7⟩:=HKF.out _ _ hG13
      generalize bs (atF l50 0).s=u0 at f0 e4 HCk HHas HKF
      generalize bs (atF l50 4).s=u4 at f4 e6 HCk HHas HKF
      generalize bs (atF l50 5).s=u5 at f5 HO5 HKF
      generalize bs (atF l50 6).s=u6 at f6 HO6 HKF
      clear hpub hkf hi13 hP13 hp13 hl13 hi12 hp12 hl12 hP12 hG12 hG13 HPub hl5
      go_upto_region 22 with fail
      go_region_held3 (fun V=>V.cell? ⟨w9.heap.size,1,none⟩=some (.slice (some ad5) 7 c5)∧V.cell? ⟨ad5.block,ad5.off+2,none⟩=some (.string u0)∧V.cell? ⟨ad5.block,ad5.off+16+2,none⟩=some (.string u4)∧V.cell? ⟨ad5.block,ad5.off+20+2,none⟩=some (.string u5)∧V.cell? ⟨ad5.block,ad5.off+24+2,none⟩=some (.string u6)∧V.cell? ⟨wq.heap.size,4,none⟩=some (.string u0)∧V.cell? ⟨wq.heap.size,6,none⟩=some (.string u4)∧V.cell? ⟨wq.heap.size,7,none⟩=some (.int .i64 n))
       (exact ⟨m1,f0,f4,f5,f6,e4,e6,e7⟩)
       (first
        | (go_at_call 18;(with_reducible refine (HO5.out _ ?hb).mono ?hm);(case hb=>exact (by exact bel_by));rintro e w14 ⟨rfl,T14,S14,hp14,hl14,hP14,hG14⟩;have hh:=HKF.out _ _ (HG13.out.trans hG14);replace m1:=hh.1;replace f0:=hh.2.1;replace f4:=hh.2.2.1;replace f5:=hh.2.2.2.1;replace f6:=hh.2.2.2.2.1;replace e4:=hh.2.2.2.2.2.1;replace e6:=hh.2.2.2.2.2.2.1;replace e7:=hh.2.2.2.2.2.2.2;clear hh;have HO6b:=hide (HO6.out _ _ _ hP14 (by omega)))
        | (go_at_call 18;refine (HO6b.out _ (by exact bel_by)).mono ?_;rintro e w15 ⟨T15,n15,S15,rfl,hi15,hp15,hl15,hP15,hG15⟩;have hh:=HKF.out _ _ ((HG13.out.trans hG14).trans hG15);replace m1:=hh.1;replace f0:=hh.2.1;replace f4:=hh.2.2.1;replace f5:=hh.2.2.2.1;replace f6:=hh.2.2.2.2.1;replace e4:=hh.2.2.2.2.2.1;replace e6:=hh.2.2.2.2.2.2.1;replace e7:=hh.2.2.2.2.2.2.2;clear hh;have HCkb:=hide (HCk.out _ _ _ _ hP15 (hp14.trans hp15) hi15 (by omega)))
        | (go_at_call 19;refine (HCkb.out _ (by exact bel_by)).mono ?_;rintro e w16 ⟨rfl,T16,S16,hp16,hl16,hP16,hG16⟩;have hh:=HKF.out _ _ (((HG13.out.trans hG14).trans hG15).trans hG16);replace m1:=hh.1;replace f0:=hh.2.1;replace f4:=hh.2.2.1;replace f5:=hh.2.2.2.1;replace f6:=hh.2.2.2.2.1;replace e4:=hh.2.2.2.2.2.1;replace e6:=hh.2.2.2.2.2.2.1;replace e7:=hh.2.2.2.2.2.2.2;clear hh)
        | fail)
      have hGk:=HG13.out.trans ((hG14.trans hG15).trans hG16)
      have HM16:=hide (HM11.out.grown hGk hP16 (Hp13.out.trans (hp14.trans (hp15.trans hp16))))
      have e3:=HE3.out _ _ hGk
      have hbw16:=HM16.out.pay.bel
      have hX16:=HX1.out.below hbw16
      have x11:=hX16.at_ Hcv.out.p11
      have x13:=hX16.at_ Hcv.out.p13
      have hl7:=Hl13.out
      clear hG14 hG15 hG16 hP14 hP15 hP16 hp14 hp15 hp16 hi15 hGk hX16 m1 f0 f4 f5 f6 e7 HO6b HCkb
      go_upto_region 24 with fail
      go_region_held3 (fun V=>V.cell? ⟨w.heap.size,13,none⟩=some (.slice c.A9 c.gr.length c.c9)∧V.cell? ⟨w.heap.size,11,none⟩=some (.slice c.A8 c.al.length c.c8)∧V.cell? ⟨wq.heap.size,4,none⟩=some (.string u0)∧V.cell? ⟨wq.heap.size,6,none⟩=some (.string u4)∧V.cell? ⟨wq.heap.size,3,none⟩=some (.int .i64 who))
       (exact ⟨x13,x11,e4,e6,e3⟩)
       (first
        | (go_at_call 21;refine (HRp.out _).mono ?_;rintro e w17 ⟨rfl,hb17⟩;replace x13:=cellB hb17 x13;replace x11:=cellB hb17 x11;replace e4:=cellB hb17 e4;replace e6:=cellB hb17 e6;replace e3:=cellB hb17 e3)
        | (go_at_call 20;refine (HHas.out _ (by exact bel_by)).mono ?_;rintro e w18 ⟨rfl,hb18⟩;replace x13:=cellB hb18 x13;replace x11:=cellB hb18 x11;replace e4:=cellB hb18 e4;replace e6:=cellB hb18 e6;replace e3:=cellB hb18 e3)
        | fail)
      go_wp2_with fail
      exact ⟨⟨i+1,1,T16,S16,o.1,rfl,by go_num,by omega,hide (HM16.out.below (by exact bel_by)),HI7,by omega⟩,by simp [intOf];omega⟩
    ·obtain rfl:i=l.length:=by omega
     have hii:¬ (l.length:Int)<l.length:=by omega
     have hbw:=Hb1.out.trans (hbr.mono Hb1.out.size)
     clear HM hbr
     go_wp2_with fail
     refine (HAw.out _ hbw).mono ?_
     rintro e w6 ⟨rfl,hb6⟩
     go_wp2_with fail
     go_ret
     exact ⟨rfl,hbw.trans (hb6.mono hbw.size)⟩
  ·have her:=HR.out.er
   rw [he] at her
   have hpn:=HR.out.no (by rw [he];simp)
   subst hpn
   obtain ⟨te,ue,rfl⟩:=IsErr.shape (show IsErr w3 er ps k from her)
   have hbw:=Hb1.out.trans (HR.out.pay.bel.mono Hb1.out.size)
   clear her HR he
   obtain ⟨w4,hw4⟩:∃W4,W4=w3.alloc (.cells #[.int .i64 kk,.string y] 44):=⟨_,rfl⟩
   have hb4:Below w3.heap.size w3 w4:=by rw [hw4];exact bel_newF _
   have hbw4:=hbw.trans (hb4.mono hbw.size)
   clear hb4
   go_upto_region 5 with fail
   rw [←hw4]
   clear hw4
   go_wp2_with fail
   refine (HAw.out _ hbw4).mono ?_
   rintro e w6 ⟨rfl,hb6⟩
   go_wp2_with fail
   go_ret
   exact ⟨by simp,hbw4.trans (hb6.mono hbw4.size)⟩
end
end Go.Proofs.YtkfnepnghnicoaaGreatDoor
