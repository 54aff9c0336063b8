/-
  The contracts of prefs.Plain and of conf.Plain. Conditions: the listed variables are there.
-/
import Derived.Test.YtihfpbaaiedfbaaGreatDoorKCfFG
import Derived.Test.YtihfpbaaiedfbaaGreatDoorKMkrG
set_option linter.unusedVariables false
set_option linter.unusedSimpArgs false
set_option maxHeartbeats 40000000
set_option maxRecDepth 100000
namespace Go.Proofs.YtihfpbaaiedfbaaGreatDoor
open Go.RowKit Go.ChangeShapes Go.WideShapes Go.Sort
def pl0:List (List UInt8):=[[99,117,114,118,101,50,53,53,49,57,45,115,104,97,50,53,54],[101,99,100,104,45,115,104,97,50,45,110,105,115,116,112,50,53,54],[100,105,102,102,105,101,45,104,101,108,108,109,97,110,45,103,114,111,117,112,45,101,120,99,104,97,110,103,101,45,115,104,97,50,53,54]]
def pl1:List (List UInt8):=[[115,115,104,45,101,100,50,53,53,49,57],[114,115,97,45,115,104,97,50,45,50,53,54]]
def pl2:List (List UInt8):=[[97,101,115,50,53,54,45,103,99,109],[97,101,115,49,50,56,45,99,116,114]]
def pl3:List (List UInt8):=[[97,101,115,50,53,54,45,103,99,109],[97,101,115,49,50,56,45,99,116,114]]
def pl4:List (List UInt8):=[[104,109,97,99,45,115,104,97,50,45,50,53,54],[104,109,97,99,45,115,104,97,50,45,53,49,50]]
def pl5:List (List UInt8):=[[104,109,97,99,45,115,104,97,50,45,50,53,54],[104,109,97,99,45,115,104,97,50,45,53,49,50]]
def pl6:List (List UInt8):=[[110,111,110,101]]
def pl7:List (List UInt8):=[[110,111,110,101]]
def plainLs:List (List (List UInt8)):=[pl0,pl1,pl2,pl3,pl4,pl5,pl6,pl7]
theorem newC_blk {w:World} {t:TypeId} (l:List (List UInt8)):NewC w.heap.size (w.alloc (.cells ((l.map bs).map Value.string).toArray t)) (.slice (some ⟨w.heap.size,0,none⟩) l.length l.length) l:=by
 refine newC_of ?_ (Nat.le_refl _)
 have h:=strs_new w t (l.map bs) _ rfl
 rwa [List.length_map] at h
theorem step_skipK {P:Program} {Q:Exit→Act→World→Prop} {ops:Array Oper} {o:Oper} {a:Act} {w w':World} {K:Act→World→Prop} {F:Prop} (hgd:o.guard=none)
  (hr:(execOp a.eval o).run P w=.ok .skip w') (h:K (a.put o.dst undef) w'):if Region.wanted o (yielded ops a.tmps)=true then Oper.wp P o a w K Q else F:=by
 rw [if_pos (by simp [Region.wanted,hgd])]
 unfold Oper.wp
 rw [hr]
 exact h
section
variable {w : World}
theorem pp1_any (w:World):Calls Tryz.prog 109 #[] w (fun e w'=>∃v,e=.returned v∧Below w.heap.size w w'∧NewC w.heap.size w' v pl2):=by
 have hN:=newC_blk (w:=w) (t:=9) pl2
 have hb:=bel_newN (w:=w) (.cells (((pl2).map bs).map Value.string).toArray 9)
 go_enter Tryz.func109,Tryz.ntmps109
 go_wp2_with fail
 go_ret
 exact ⟨_,rfl,hb,hN⟩
theorem pp2_any (w:World):Calls Tryz.prog 110 #[] w (fun e w'=>∃v,e=.returned v∧Below w.heap.size w w'∧NewC w.heap.size w' v pl4):=by
 have hN:=newC_blk (w:=w) (t:=9) pl4
 have hb:=bel_newN (w:=w) (.cells (((pl4).map bs).map Value.string).toArray 9)
 go_enter Tryz.func110,Tryz.ntmps110
 go_wp2_with fail
 go_ret
 exact ⟨_,rfl,hb,hN⟩
theorem pp3_any (w:World):Calls Tryz.prog 111 #[] w (fun e w'=>∃v,e=.returned v∧Below w.heap.size w w'∧NewC w.heap.size w' v pl6):=by
 have hN:=newC_blk (w:=w) (t:=9) pl6
 have hb:=bel_newN (w:=w) (.cells (((pl6).map bs).map Value.string).toArray 9)
 go_enter Tryz.func111,Tryz.ntmps111
 go_wp2_with fail
 go_ret
 exact ⟨_,rfl,hb,hN⟩
def sto8z (w:World) (g:Nat) (v0 v1 v2 v3 v4 v5 v6 v7:Value):World:=((((((((w.setCell ⟨g,0,none⟩ v0).setCell ⟨g,1,none⟩ v1).setCell ⟨g,2,none⟩ v2).setCell ⟨g,3,none⟩ v3).setCell ⟨g,4,none⟩ v4).setCell ⟨g,5,none⟩ v5).setCell ⟨g,6,none⟩ v6).setCell ⟨g,7,none⟩ v7)
theorem sto8z_blk {w:World} {r:Nat} {t:TypeId} {o0 o1 o2 o3 o4 o5 o6 o7:Value} (h:Blk w r t #[o0,o1,o2,o3,o4,o5,o6,o7]) (v0 v1 v2 v3 v4 v5 v6 v7:Value):Blk (sto8z w r v0 v1 v2 v3 v4 v5 v6 v7) r t #[v0,v1,v2,v3,v4,v5,v6,v7]:=by
 have h1:=((((((((h.set_ 0 v0).set_ 1 v1).set_ 2 v2).set_ 3 v3).set_ 4 v4).set_ 5 v5).set_ 6 v6).set_ 7 v7)
 simpa [sto8z] using h1
theorem sto8z_bel {B:Nat} {w0 w:World} {r:Nat} (h:Below B w0 w) (hr:B≤r) (v0 v1 v2 v3 v4 v5 v6 v7:Value):Below B w0 (sto8z w r v0 v1 v2 v3 v4 v5 v6 v7):=((((((((h.setCell (p:=⟨r,0,none⟩) hr v0).setCell (p:=⟨r,1,none⟩) hr v1).setCell (p:=⟨r,2,none⟩) hr v2).setCell (p:=⟨r,3,none⟩) hr v3).setCell (p:=⟨r,4,none⟩) hr v4).setCell (p:=⟨r,5,none⟩) hr v5).setCell (p:=⟨r,6,none⟩) hr v6).setCell (p:=⟨r,7,none⟩) hr v7)
theorem sto8z_new {lo:Nat} {w:World} {r:Nat} {v:Value} {l:List (List UInt8)} (h:NewC lo w v l) (hr:r<lo) (v0 v1 v2 v3 v4 v5 v6 v7:Value):NewC lo (sto8z w r v0 v1 v2 v3 v4 v5 v6 v7) v l:=((((((((h.set_ (p:=⟨r,0,none⟩) hr v0).set_ (p:=⟨r,1,none⟩) hr v1).set_ (p:=⟨r,2,none⟩) hr v2).set_ (p:=⟨r,3,none⟩) hr v3).set_ (p:=⟨r,4,none⟩) hr v4).set_ (p:=⟨r,5,none⟩) hr v5).set_ (p:=⟨r,6,none⟩) hr v6).set_ (p:=⟨r,7,none⟩) hr v7)
theorem stoP8z {x y:Operand} {g:Nat} {B0 B1 B2 B3 B4 B5 B6 B7:Option Addr} {m0 m1 m2 m3 m4 m5 m6 m7 d0 d1 d2 d3 d4 d5 d6 d7:Nat} (o:Oper) (ho:o.op=.store 24 x y) (ρ:Operand→Value) (hρ:ρ x=.pointer (some ⟨g,0,none⟩)) (hρ2:ρ y=.agg #[.slice B0 m0 d0,.slice B1 m1 d1,.slice B2 m2 d2,.slice B3 m3 d3,.slice B4 m4 d4,.slice B5 m5 d5,.slice B6 m6 d6,.slice B7 m7 d7]) (w:World) (hb:Blk w g 24 #[.slice none 0 0,.slice none 0 0,.slice none 0 0,.slice none 0 0,.slice none 0 0,.slice none 0 0,.slice none 0 0,.slice none 0 0]) :
  (execOp ρ o).run Tryz.prog w=.ok .skip (sto8z w g (.slice B0 m0 d0) (.slice B1 m1 d1) (.slice B2 m2 d2) (.slice B3 m3 d3) (.slice B4 m4 d4) (.slice B5 m5 d5) (.slice B6 m6 d6) (.slice B7 m7 d7)):=by
 obtain ⟨d,op,t,p,af,gd⟩:=o
 simp only at ho
 subst ho
 have c0:=hb.cell 0
 have f0:=hb.frozen 0
 have c1:=hb.cell 1
 have f1:=hb.frozen 1
 have c2:=hb.cell 2
 have f2:=hb.frozen 2
 have c3:=hb.cell 3
 have f3:=hb.frozen 3
 have c4:=hb.cell 4
 have f4:=hb.frozen 4
 have c5:=hb.cell 5
 have f5:=hb.frozen 5
 have c6:=hb.cell 6
 have f6:=hb.frozen 6
 have c7:=hb.cell 7
 have f7:=hb.frozen 7
 simp at c0 c1 c2 c3 c4 c5 c6 c7
 clear hb
 unfold sto8z
 go_simp
theorem pplain_any (hM:MethV w):Calls Tryz.prog 64 #[] w (fun e w'=>∃B0 m0 d0 B1 m1 d1 B2 m2 d2 B3 m3 d3 B4 m4 d4 B5 m5 d5 B6 m6 d6 B7 m7 d7,e=.returned (.agg #[.slice B0 m0 d0,.slice B1 m1 d1,.slice B2 m2 d2,.slice B3 m3 d3,.slice B4 m4 d4,.slice B5 m5 d5,.slice B6 m6 d6,.slice B7 m7 d7])∧(∀(i:Nat) v l,([.slice B0 m0 d0,.slice B1 m1 d1,.slice B2 m2 d2,.slice B3 m3 d3,.slice B4 m4 d4,.slice B5 m5 d5,.slice B6 m6 d6,.slice B7 m7 d7]:List Value)[i]?=some v→plainLs[i]?=some l→NewC w.heap.size w' v l)∧Below w.heap.size w w'):=by
 obtain ⟨W0,hW0⟩:∃W0,W0=w.alloc (.cells #[.slice none 0 0,.slice none 0 0,.slice none 0 0,.slice none 0 0,.slice none 0 0,.slice none 0 0,.slice none 0 0,.slice none 0 0] 24):=⟨_,rfl⟩
 have hb0:Below w.heap.size w W0:=by rw [hW0];exact bel_by
 have hX0:Blk W0 w.heap.size 24 #[.slice none 0 0,.slice none 0 0,.slice none 0 0,.slice none 0 0,.slice none 0 0,.slice none 0 0,.slice none 0 0,.slice none 0 0]:=by rw [hW0];exact Blk.new w _ _
 have HX:=hide (And.intro hb0 (And.intro hX0 (hM.below hb0)))
 clear hb0 hX0 hM
 go_enter Tryz.func64,Tryz.ntmps64
 go_upto_region 4 with fail
 rw [←hW0]
 clear hW0
 refine wp_region_E (fun W=>Below W0.heap.size W0 W) (fun i=>[1,3,5,6,7,9,11,13,15,17,19,20].contains i) (by kernel_rfl) ?_
 obtain ⟨Wd,hWd⟩:∃Wd,Wd=W0.drew:=⟨_,rfl⟩
 have hSd:Below W0.heap.size W0 Wd:=by rw [hWd];exact (Below.refl _ _).drew
 rw [←hWd]
 clear hWd
 refine wpAnyE_takeY (i:=0) (oi:=?_) (v:=.pointer (some ⟨0,1,none⟩)) ?_ ?_ ?_ ?_ ?_ ?_ ?_ ?_
 rotate_left 1
 ·(first | (simp only [List.getElem?_toArray,List.getElem?_cons_succ,List.getElem?_cons_zero];exact rfl) | exact rfl)
 ·kernel_rfl
 ·kernel_rfl
 ·kernel_rfl
 ·rfl
 ·exact fun _ _ _ h=>h
 ·exact Or.inl ⟨by rfl,fun w _=>by go_simp⟩
 try simp only [Act.put,List.setIfInBounds_toArray,List.set_cons_zero,List.set_cons_succ]
 refine wpAnyE_takeY (i:=2) (oi:=?_) (v:=.pointer (some ⟨0,2,none⟩)) ?_ ?_ ?_ ?_ ?_ ?_ ?_ ?_
 rotate_left 1
 ·(first | (simp only [List.getElem?_toArray,List.getElem?_cons_succ,List.getElem?_cons_zero];exact rfl) | exact rfl)
 ·kernel_rfl
 ·kernel_rfl
 ·kernel_rfl
 ·rfl
 ·exact fun _ _ _ h=>h
 ·exact Or.inl ⟨by rfl,fun w _=>by go_simp⟩
 try simp only [Act.put,List.setIfInBounds_toArray,List.set_cons_zero,List.set_cons_succ]
 refine wpAnyE_takeY (i:=4) (oi:=?_) (v:=.pointer (some ⟨0,3,none⟩)) ?_ ?_ ?_ ?_ ?_ ?_ ?_ ?_
 rotate_left 1
 ·(first | (simp only [List.getElem?_toArray,List.getElem?_cons_succ,List.getElem?_cons_zero];exact rfl) | exact rfl)
 ·kernel_rfl
 ·kernel_rfl
 ·kernel_rfl
 ·rfl
 ·exact fun _ _ _ h=>h
 ·exact Or.inl ⟨by rfl,fun w _=>by go_simp⟩
 try simp only [Act.put,List.setIfInBounds_toArray,List.set_cons_zero,List.set_cons_succ]
 refine wpAnyE_takeY (i:=8) (oi:=?_) (v:=.func (.func 109) #[] #[]) ?_ ?_ ?_ ?_ ?_ ?_ ?_ ?_
 rotate_left 1
 ·(first | (simp only [List.getElem?_toArray,List.getElem?_cons_succ,List.getElem?_cons_zero];exact rfl) | exact rfl)
 ·kernel_rfl
 ·kernel_rfl
 ·kernel_rfl
 ·rfl
 ·exact fun _ _ _ h=>h
 ·exact Or.inl ⟨by rfl,fun w _=>by go_simp⟩
 try simp only [Act.put,List.setIfInBounds_toArray,List.set_cons_zero,List.set_cons_succ]
 refine wpAnyE_takeY (i:=10) (oi:=?_) (v:=.func (.func 109) #[] #[]) ?_ ?_ ?_ ?_ ?_ ?_ ?_ ?_
 rotate_left 1
 ·(first | (simp only [List.getElem?_toArray,List.getElem?_cons_succ,List.getElem?_cons_zero];exact rfl) | exact rfl)
 ·kernel_rfl
 ·kernel_rfl
 ·kernel_rfl
 ·rfl
 ·exact fun _ _ _ h=>h
 ·exact Or.inl ⟨by rfl,fun w _=>by go_simp⟩
 try simp only [Act.put,List.setIfInBounds_toArray,List.set_cons_zero,List.set_cons_succ]
 refine wpAnyE_takeY (i:=12) (oi:=?_) (v:=.func (.func 110) #[] #[]) ?_ ?_ ?_ ?_ ?_ ?_ ?_ ?_
 rotate_left 1
 ·(first | (simp only [List.getElem?_toArray,List.getElem?_cons_succ,List.getElem?_cons_zero];exact rfl) | exact rfl)
 ·kernel_rfl
 ·kernel_rfl
 ·kernel_rfl
 ·rfl
 ·exact fun _ _ _ h=>h
 ·exact Or.inl ⟨by rfl,fun w _=>by go_simp⟩
 try simp only [Act.put,List.setIfInBounds_toArray,List.set_cons_zero,List.set_cons_succ]
 refine wpAnyE_takeY (i:=14) (oi:=?_) (v:=.func (.func 110) #[] #[]) ?_ ?_ ?_ ?_ ?_ ?_ ?_ ?_
 rotate_left 1
 ·(first | (simp only [List.getElem?_toArray,List.getElem?_cons_succ,List.getElem?_cons_zero];exact rfl) | exact rfl)
 ·kernel_rfl
 ·kernel_rfl
 ·kernel_rfl
 ·rfl
 ·exact fun _ _ _ h=>h
 ·exact Or.inl ⟨by rfl,fun w _=>by go_simp⟩
 try simp only [Act.put,List.setIfInBounds_toArray,List.set_cons_zero,List.set_cons_succ]
 refine wpAnyE_takeY (i:=16) (oi:=?_) (v:=.func (.func 111) #[] #[]) ?_ ?_ ?_ ?_ ?_ ?_ ?_ ?_
 rotate_left 1
 ·(first | (simp only [List.getElem?_toArray,List.getElem?_cons_succ,List.getElem?_cons_zero];exact rfl) | exact rfl)
 ·kernel_rfl
 ·kernel_rfl
 ·kernel_rfl
 ·rfl
 ·exact fun _ _ _ h=>h
 ·exact Or.inl ⟨by rfl,fun w _=>by go_simp⟩
 try simp only [Act.put,List.setIfInBounds_toArray,List.set_cons_zero,List.set_cons_succ]
 refine wpAnyE_takeY (i:=18) (oi:=?_) (v:=.func (.func 111) #[] #[]) ?_ ?_ ?_ ?_ ?_ ?_ ?_ ?_
 rotate_left 1
 ·(first | (simp only [List.getElem?_toArray,List.getElem?_cons_succ,List.getElem?_cons_zero];exact rfl) | exact rfl)
 ·kernel_rfl
 ·kernel_rfl
 ·kernel_rfl
 ·rfl
 ·exact fun _ _ _ h=>h
 ·exact Or.inl ⟨by rfl,fun w _=>by go_simp⟩
 try simp only [Act.put,List.setIfInBounds_toArray,List.set_cons_zero,List.set_cons_succ]
 refine wpAnyE_take (i:=1) (oi:=?_) (v:=.string ⟨#[99,117,114,118,101,50,53,53,49,57,45,115,104,97,50,53,54]⟩) ?_ ?_ ?_ ?_ ?_ ?_ ?_ hSd ?_
 rotate_left 1
 ·(first | (simp only [List.getElem?_toArray,List.getElem?_cons_succ,List.getElem?_cons_zero];exact rfl) | exact rfl)
 ·kernel_rfl
 ·kernel_rfl
 ·kernel_rfl
 ·kernel_rfl
 ·exact fun _ _ _ h=>h
 ·refine Or.inl ⟨by rfl,fun w hSw=>?_⟩
  have q:=(HX.out.2.2.below hSw).c1
  clear hSw
  go_simp
 try simp only [Act.put,List.setIfInBounds_toArray,List.set_cons_zero,List.set_cons_succ]
 refine wpAnyE_take (i:=3) (oi:=?_) (v:=.string ⟨#[101,99,100,104,45,115,104,97,50,45,110,105,115,116,112,50,53,54]⟩) ?_ ?_ ?_ ?_ ?_ ?_ ?_ hSd ?_
 rotate_left 1
 ·(first | (simp only [List.getElem?_toArray,List.getElem?_cons_succ,List.getElem?_cons_zero];exact rfl) | exact rfl)
 ·kernel_rfl
 ·kernel_rfl
 ·kernel_rfl
 ·kernel_rfl
 ·exact fun _ _ _ h=>h
 ·refine Or.inl ⟨by rfl,fun w hSw=>?_⟩
  have q:=(HX.out.2.2.below hSw).c2
  clear hSw
  go_simp
 try simp only [Act.put,List.setIfInBounds_toArray,List.set_cons_zero,List.set_cons_succ]
 refine wpAnyE_take (i:=5) (oi:=?_) (v:=.string ⟨#[100,105,102,102,105,101,45,104,101,108,108,109,97,110,45,103,114,111,117,112,45,101,120,99,104,97,110,103,101,45,115,104,97,50,53,54]⟩) ?_ ?_ ?_ ?_ ?_ ?_ ?_ hSd ?_
 rotate_left 1
 ·(first | (simp only [List.getElem?_toArray,List.getElem?_cons_succ,List.getElem?_cons_zero];exact rfl) | exact rfl)
 ·kernel_rfl
 ·kernel_rfl
 ·kernel_rfl
 ·kernel_rfl
 ·exact fun _ _ _ h=>h
 ·refine Or.inl ⟨by rfl,fun w hSw=>?_⟩
  have q:=(HX.out.2.2.below hSw).c3
  clear hSw
  go_simp
 try simp only [Act.put,List.setIfInBounds_toArray,List.set_cons_zero,List.set_cons_succ]
 refine wpAnyE_makers (P:=Tryz.prog) (S:=fun W=>Below W0.heap.size W0 W) 8 (fun p=>([6,7,9,11,13,15,17,19]:List Nat).getD p 0) (fun gs=>⟨#[.pointer (some ⟨w.heap.size,0,none⟩),.func (.func 109) #[] #[],.func (.func 110) #[] #[],.func (.func 111) #[] #[],.pointer (some ⟨0,1,none⟩),.string ⟨#[99,117,114,118,101,50,53,53,49,57,45,115,104,97,50,53,54]⟩,.pointer (some ⟨0,2,none⟩),.string ⟨#[101,99,100,104,45,115,104,97,50,45,110,105,115,116,112,50,53,54]⟩,.pointer (some ⟨0,3,none⟩),.string ⟨#[100,105,102,102,105,101,45,104,101,108,108,109,97,110,45,103,114,111,117,112,45,101,120,99,104,97,110,103,101,45,115,104,97,50,53,54]⟩,(gs.getD 0 undef),(gs.getD 1 undef),.func (.func 109) #[] #[],(gs.getD 2 undef),.func (.func 109) #[] #[],(gs.getD 3 undef),.func (.func 110) #[] #[],(gs.getD 4 undef),.func (.func 110) #[] #[],(gs.getD 5 undef),.func (.func 111) #[] #[],(gs.getD 6 undef),.func (.func 111) #[] #[],(gs.getD 7 undef),undef],[]⟩) (fun ds=>#[true,true,true,true,true,true,ds.getD 0 true,ds.getD 1 true,true,ds.getD 2 true,true,ds.getD 3 true,true,ds.getD 4 true,true,ds.getD 5 true,true,ds.getD 6 true,true,ds.getD 7 true,false,false]) (fun p v W=>NewC W0.heap.size W v (plainLs.getD p [])) 2 ?_ ?_ ?_ ?_ (rdyB_spec (by kernel_rfl)) ?_ 8 [false,false,false,false,false,false,false,false] [undef,undef,undef,undef,undef,undef,undef,undef] Wd rfl rfl rfl hSd ?_
 ·exact fun p v w2 w3 h hb=>NewC.belowW h hb
 ·exact fun w2 w3 h hb=>h.trans (hb.mono h.size)
 ·intro p hp
  match p,hp with
   | 0,_=>exact ⟨_,rfl,fun gs w2 hg hS2=>by
     match gs,hg with
     | [g0,g1,g2,g3,g4,g5,g6,g7],_=>exact ⟨fun v=>rfl,mk_val rfl (show (execOp _ _).run Tryz.prog w2=_ from by go_simp;exact ⟨rfl,rfl⟩) (bel_newN _) ((newC_blk (w:=w2) (t:=9) pl0).mono hS2.size)⟩⟩
   | 1,_=>exact ⟨_,rfl,fun gs w2 hg hS2=>by
     match gs,hg with
     | [g0,g1,g2,g3,g4,g5,g6,g7],_=>exact ⟨fun v=>rfl,mk_val rfl (show (execOp _ _).run Tryz.prog w2=_ from by go_simp;exact ⟨rfl,rfl⟩) (bel_newN _) ((newC_blk (w:=w2) (t:=9) pl1).mono hS2.size)⟩⟩
   | 2,_=>exact ⟨_,rfl,fun gs w2 hg hS2=>by
     match gs,hg with
     | [g0,g1,g2,g3,g4,g5,g6,g7],_=>exact ⟨fun v=>rfl,mk_call (f:=109) (args:=#[]) rfl (by go_simp) ((pp1_any w2).mono fun _ _ h=>let ⟨v,h1,h2,h3⟩:=h;⟨v,h1,h2,h3.mono hS2.size⟩)⟩⟩
   | 3,_=>exact ⟨_,rfl,fun gs w2 hg hS2=>by
     match gs,hg with
     | [g0,g1,g2,g3,g4,g5,g6,g7],_=>exact ⟨fun v=>rfl,mk_call (f:=109) (args:=#[]) rfl (by go_simp) ((pp1_any w2).mono fun _ _ h=>let ⟨v,h1,h2,h3⟩:=h;⟨v,h1,h2,h3.mono hS2.size⟩)⟩⟩
   | 4,_=>exact ⟨_,rfl,fun gs w2 hg hS2=>by
     match gs,hg with
     | [g0,g1,g2,g3,g4,g5,g6,g7],_=>exact ⟨fun v=>rfl,mk_call (f:=110) (args:=#[]) rfl (by go_simp) ((pp2_any w2).mono fun _ _ h=>let ⟨v,h1,h2,h3⟩:=h;⟨v,h1,h2,h3.mono hS2.size⟩)⟩⟩
   | 5,_=>exact ⟨_,rfl,fun gs w2 hg hS2=>by
     match gs,hg with
     | [g0,g1,g2,g3,g4,g5,g6,g7],_=>exact ⟨fun v=>rfl,mk_call (f:=110) (args:=#[]) rfl (by go_simp) ((pp2_any w2).mono fun _ _ h=>let ⟨v,h1,h2,h3⟩:=h;⟨v,h1,h2,h3.mono hS2.size⟩)⟩⟩
   | 6,_=>exact ⟨_,rfl,fun gs w2 hg hS2=>by
     match gs,hg with
     | [g0,g1,g2,g3,g4,g5,g6,g7],_=>exact ⟨fun v=>rfl,mk_call (f:=111) (args:=#[]) rfl (by go_simp) ((pp3_any w2).mono fun _ _ h=>let ⟨v,h1,h2,h3⟩:=h;⟨v,h1,h2,h3.mono hS2.size⟩)⟩⟩
   | 7,_=>exact ⟨_,rfl,fun gs w2 hg hS2=>by
     match gs,hg with
     | [g0,g1,g2,g3,g4,g5,g6,g7],_=>exact ⟨fun v=>rfl,mk_call (f:=111) (args:=#[]) rfl (by go_simp) ((pp3_any w2).mono fun _ _ h=>let ⟨v,h1,h2,h3⟩:=h;⟨v,h1,h2,h3.mono hS2.size⟩)⟩⟩
 ·intro ds p hd hp
  match ds,hd with
   | [b0,b1,b2,b3,b4,b5,b6,b7],_ =>
    match p,hp with
    | 0,_=>rfl
    | 1,_=>rfl
    | 2,_=>rfl
    | 3,_=>rfl
    | 4,_=>rfl
    | 5,_=>rfl
    | 6,_=>rfl
    | 7,_=>rfl
 ·intro gs W hg hSW hall
  match gs,hg with
  | [g0,g1,g2,g3,g4,g5,g6,g7],_ =>
   have n0:NewC W0.heap.size W g0 pl0:=hall 0 _ rfl
   have n1:NewC W0.heap.size W g1 pl1:=hall 1 _ rfl
   have n2:NewC W0.heap.size W g2 pl2:=hall 2 _ rfl
   have n3:NewC W0.heap.size W g3 pl3:=hall 3 _ rfl
   have n4:NewC W0.heap.size W g4 pl4:=hall 4 _ rfl
   have n5:NewC W0.heap.size W g5 pl5:=hall 5 _ rfl
   have n6:NewC W0.heap.size W g6 pl6:=hall 6 _ rfl
   have n7:NewC W0.heap.size W g7 pl7:=hall 7 _ rfl
   obtain ⟨B0,d0,e0,_⟩:=id n0
   obtain ⟨B1,d1,e1,_⟩:=id n1
   obtain ⟨B2,d2,e2,_⟩:=id n2
   obtain ⟨B3,d3,e3,_⟩:=id n3
   obtain ⟨B4,d4,e4,_⟩:=id n4
   obtain ⟨B5,d5,e5,_⟩:=id n5
   obtain ⟨B6,d6,e6,_⟩:=id n6
   obtain ⟨B7,d7,e7,_⟩:=id n7
   have hall2:∀(i:Nat) v l,([g0,g1,g2,g3,g4,g5,g6,g7]:List Value)[i]?=some v→plainLs[i]?=some l→NewC W0.heap.size W v l:=fun i v l h1 h2=>by
    match i,h1,h2 with
    | 0,h1,h2=>cases h1;cases h2;exact n0
    | 1,h1,h2=>cases h1;cases h2;exact n1
    | 2,h1,h2=>cases h1;cases h2;exact n2
    | 3,h1,h2=>cases h1;cases h2;exact n3
    | 4,h1,h2=>cases h1;cases h2;exact n4
    | 5,h1,h2=>cases h1;cases h2;exact n5
    | 6,h1,h2=>cases h1;cases h2;exact n6
    | 7,h1,h2=>cases h1;cases h2;exact n7
    | n+8,h1,_=>simp at h1
   clear n0 n1 n2 n3 n4 n5 n6 n7 hall
   subst e0 e1 e2 e3 e4 e5 e6 e7
   have hallN:=hide hall2
   have hB0:=HX.out.2.1.below hSW HX.out.2.1.lt
   simp only [List.replicate,List.getD_cons_zero,List.getD_cons_succ]
   refine wpAnyE_take (i:=20) (oi:=?_) (v:=.agg #[.slice B0 pl0.length d0,.slice B1 pl1.length d1,.slice B2 pl2.length d2,.slice B3 pl3.length d3,.slice B4 pl4.length d4,.slice B5 pl5.length d5,.slice B6 pl6.length d6,.slice B7 pl7.length d7]) ?_ ?_ ?_ ?_ ?_ ?_ ?_ hSW ?_
   rotate_left 1
   ·(first | (simp only [List.getElem?_toArray,List.getElem?_cons_succ,List.getElem?_cons_zero];exact rfl) | exact rfl)
   ·kernel_rfl
   ·kernel_rfl
   ·kernel_rfl
   ·kernel_rfl
   ·exact fun _ _ _ h=>h
   ·refine Or.inl ⟨by rfl,fun w hSw=>?_⟩
    clear hSw
    go_simp
   try simp only [Act.put,List.setIfInBounds_toArray,List.set_cons_zero,List.set_cons_succ]
   refine wpAnyE_ready (rs:=[21]) (by kernel_rfl) (by simp) ?_
   refine AllReadyE.late (o:=?_) ?_ rfl (fun K hK=>?_) AllReadyE.nil
   rotate_left 1
   ·(first | (simp only [List.getElem?_toArray,List.getElem?_cons_succ,List.getElem?_cons_zero];exact rfl) | exact rfl)
   refine step_skipK rfl (stoP8z (x:=.tmp 0) (y:=.tmp 24) _ rfl _ (by rfl) (by rfl) _ hB0) ?_
   refine hK.out _ _ ?_
   clear hK K
   try simp only [Act.put,List.setIfInBounds_toArray,List.set_cons_zero,List.set_cons_succ]
   refine wpAnyE_done (by kernel_rfl) ?_ _
   have hXn:=sto8z_blk hB0 (.slice B0 pl0.length d0) (.slice B1 pl1.length d1) (.slice B2 pl2.length d2) (.slice B3 pl3.length d3) (.slice B4 pl4.length d4) (.slice B5 pl5.length d5) (.slice B6 pl6.length d6) (.slice B7 pl7.length d7)
   have hBn:=sto8z_bel (HX.out.1.trans (hSW.mono HX.out.1.size)) (Nat.le_refl _) (.slice B0 pl0.length d0) (.slice B1 pl1.length d1) (.slice B2 pl2.length d2) (.slice B3 pl3.length d3) (.slice B4 pl4.length d4) (.slice B5 pl5.length d5) (.slice B6 pl6.length d6) (.slice B7 pl7.length d7)
   have HN:=hide (fun (i:Nat) v l (h1:([.slice B0 pl0.length d0,.slice B1 pl1.length d1,.slice B2 pl2.length d2,.slice B3 pl3.length d3,.slice B4 pl4.length d4,.slice B5 pl5.length d5,.slice B6 pl6.length d6,.slice B7 pl7.length d7]:List Value)[i]?=some v) (h2:plainLs[i]?=some l)=>(sto8z_new (hallN.out i v l h1 h2) HX.out.2.1.lt (.slice B0 pl0.length d0) (.slice B1 pl1.length d1) (.slice B2 pl2.length d2) (.slice B3 pl3.length d3) (.slice B4 pl4.length d4) (.slice B5 pl5.length d5) (.slice B6 pl6.length d6) (.slice B7 pl7.length d7)).mono HX.out.1.size)
   generalize sto8z W w.heap.size (.slice B0 pl0.length d0) (.slice B1 pl1.length d1) (.slice B2 pl2.length d2) (.slice B3 pl3.length d3) (.slice B4 pl4.length d4) (.slice B5 pl5.length d5) (.slice B6 pl6.length d6) (.slice B7 pl7.length d7)=wF at hXn hBn HN ⊢
   clear hB0 hSW hallN
   go_wp2_with fail
   have q0:=hXn.cell 0
   have q1:=hXn.cell 1
   have q2:=hXn.cell 2
   have q3:=hXn.cell 3
   have q4:=hXn.cell 4
   have q5:=hXn.cell 5
   have q6:=hXn.cell 6
   have q7:=hXn.cell 7
   simp only [List.getElem?_toArray,List.getElem?_cons_zero,List.getElem?_cons_succ] at q0 q1 q2 q3 q4 q5 q6 q7
   exact bodyPost_ret (v:=.agg #[.slice B0 pl0.length d0,.slice B1 pl1.length d1,.slice B2 pl2.length d2,.slice B3 pl3.length d3,.slice B4 pl4.length d4,.slice B5 pl5.length d5,.slice B6 pl6.length d6,.slice B7 pl7.length d7]) (by simp [results,Tryz.results64,go_sem,q0,q1,q2,q3,q4,q5,q6,q7]) rfl ⟨B0,pl0.length,d0,B1,pl1.length,d1,B2,pl2.length,d2,B3,pl3.length,d3,B4,pl4.length,d4,B5,pl5.length,d5,B6,pl6.length,d6,B7,pl7.length,d7,rfl,HN.out,hBn⟩
 ·exact fun p v h1=>by
   match p,h1 with
   | 0,h1=>cases h1
   | 1,h1=>cases h1
   | 2,h1=>cases h1
   | 3,h1=>cases h1
   | 4,h1=>cases h1
   | 5,h1=>cases h1
   | 6,h1=>cases h1
   | 7,h1=>cases h1
   | n+8,h1=>simp at h1
end
end Go.Proofs.YtihfpbaaiedfbaaGreatDoor
