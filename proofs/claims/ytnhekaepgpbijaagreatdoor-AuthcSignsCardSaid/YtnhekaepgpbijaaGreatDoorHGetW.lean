/-
  The contracts of package msg's truth, pairs and get. Conditions: texts of at most 1,000,000 bytes; the library's own number is there.
-/
import Derived.Test.YtnhekaepgpbijaaGreatDoorHRRdG
import Derived.Test.YtnhekaepgpbijaaGreatDoorHPayMG
import Derived.Test.YtnhekaepgpbijaaGreatDoorHGetsG
import Derived.Test.YtnhekaepgpbijaaGreatDoorHParseAG
set_option linter.unusedVariables false
set_option linter.unusedSimpArgs false
set_option maxHeartbeats 40000000
set_option maxRecDepth 100000
namespace Go.Proofs.YtnhekaepgpbijaaGreatDoor
open Go.RowKit Go.ChangeShapes Go.WideShapes Go.Sort
theorem MaxL.grown {w w':World} {g:Nat} {s:ByteArray} {p:Nat} {x:Int} (h:MaxL w) (hr:Rdr w g s p x) (ho:w.grownBy w' (some g)):MaxL w':=by
 obtain ⟨m,hm⟩:=h
 refine ⟨m,?_⟩
 by_cases hg:g=4
 ·have h0:w.cell? ⟨g,0,none⟩=some (.string s):=Blk.cell hr 0
  rw [hg,hm] at h0
  cases h0
 ·exact (World.cell?_of_block (a:=⟨4,0,none⟩) (ho.block _ (World.block_lt_of_cell? w _ hm) (fun e=>hg (Option.some.inj e).symm))).trans hm
theorem fin4 {w:World} {r:Nat} {t:TypeId} {o0 o1 o2 o3:Value} (h:Blk w r t #[o0,o1,o2,o3]) (v0 v1 v2 v3:Value) :
  Blk ((((w.setCell ⟨r,0,none⟩ v0).setCell ⟨r,1,none⟩ v1).setCell ⟨r,2,none⟩ v2).setCell ⟨r,3,none⟩ v3) r t #[v0,v1,v2,v3]:=by
 have:=(((h.set_ 0 v0).set_ 1 v1).set_ 2 v2).set_ 3 v3
 simpa using this
theorem only_fin4 {a w:World} {g r:Nat} (h:a.grownBy w (some g)) (hr:a.heap.size≤r) (v0 v1 v2 v3:Value) :
  a.grownBy ((((w.setCell ⟨r,0,none⟩ v0).setCell ⟨r,1,none⟩ v1).setCell ⟨r,2,none⟩ v2).setCell ⟨r,3,none⟩ v3) (some g) :=
 only_setCell (only_setCell (only_setCell (only_setCell h (.inr hr) _) (.inr hr) _) (.inr hr) _) (.inr hr) _
theorem rdr_fin4 {w:World} {g r:Nat} {s:ByteArray} {p:Nat} {x:Int} (h:Rdr w g s p x) (hr:g≠r) (v0 v1 v2 v3:Value) :
  Rdr ((((w.setCell ⟨r,0,none⟩ v0).setCell ⟨r,1,none⟩ v1).setCell ⟨r,2,none⟩ v2).setCell ⟨r,3,none⟩ v3) g s p x :=
 Blk.far (Blk.far (Blk.far (Blk.far h (p:=⟨r,0,none⟩) hr v0) (p:=⟨r,1,none⟩) hr v1) (p:=⟨r,2,none⟩) hr v2) (p:=⟨r,3,none⟩) hr v3
theorem NewC.txc {lo:Nat} {w':World} {v:Value} {ls:List (List UInt8)} (h:NewC lo w' v ls):Txc w' v ls:=by
 obtain ⟨A,c,rfl,hc,hS⟩:=h
 exact ⟨⟨A,c,by rw [List.length_map],by rw [List.length_map];exact hS.mono (Nat.zero_le _)⟩,A,c,rfl,hc⟩
theorem NewC.keep {lo:Nat} {w w':World} {v:Value} {ls:List (List UInt8)} {g:Nat} (h:NewC lo w v ls) (ho:w.grownBy w' (some g)) (hg:g<lo):NewC lo w' v ls:=by
 obtain ⟨A,c,rfl,hc,hS⟩:=h
 refine ⟨A,c,rfl,hc,hS.1,fun hn=>?_⟩
 obtain ⟨ad,e,h1,h2,h3⟩:=hS.2 hn
 exact ⟨ad,e,h1,Nat.lt_of_lt_of_le h2 ho.size,fun j u hu=>(World.cell?_of_block (ho.block _ (by rw [block_of_add];exact h2) (fun e2=>by have:=Option.some.inj e2;rw [block_of_add] at this;omega))).trans (h3 j u hu)⟩
def GetP (k:Nat) (w:World) (g:Nat) (s:ByteArray) (p:Nat) (e:Ending) (w':World):Prop :=
 (∃x lv p',getF k (s.data.toList.drop p)=.ok x (s.data.toList.drop p')∧e=.returned (.tuple #[fldV x lv,.int .i64 0])∧NewC w.heap.size w' lv x.l∧Rdr w' g s p' 0∧p'≤s.size∧w.grownBy w' (some g)) ∨
 (∃x:Nat,∃(a b:Int) (c:ByteArray) (A:Option Addr) (m d:Nat),getF k (s.data.toList.drop p)=.no x∧x≠0∧e=.returned (.tuple #[.agg #[.int .u8 a,.int .i64 b,.string c,.slice A m d],.int .i64 x])∧w.grownBy w' (some g))
theorem gBool_01 {r r':List UInt8} {a:Int} (h:gBool r=.ok a r'):a=0∨a=1:=by
 cases r with
 | nil=>cases h
 | cons c q =>
  rw [gBool_cons] at h
  split at h
  ·injection h with h1 _
   omega
  ·cases h
section
variable {w : World} {g p : Nat} {s : ByteArray}
theorem truth_any (b:Bool) (w:World):Calls Tryz.prog 155 #[.bool b] w (fun e w'=>e=.returned (.int .i64 (if b=true then 1 else 0))∧w'=w):=by
 cases b with
 | true =>
  go_enter Tryz.func155,Tryz.ntmps155
  go_wp2
  go_ret
  exact ⟨rfl,rfl⟩
 | false =>
  go_enter Tryz.func155,Tryz.ntmps155
  go_wp2
  go_ret
  exact ⟨rfl,rfl⟩

theorem getw_109 (h:Rdr w g s p 0) (hs:s.size≤1000000) (hp:p≤s.size):Calls Tryz.prog 92 #[.pointer (some ⟨g,0,none⟩),.int .u8 109] w (GetP 109 w g s p):=by
 have hlt:=Blk.lt h
 obtain ⟨W0,hW0⟩:∃W0,W0=(w.alloc (.cells #[.int .u8 0,.int .i64 0,.string ⟨#[]⟩,.slice none 0 0] 60)).alloc (.cells #[.int .u8 109,.int .i64 0,.string ⟨#[]⟩,.slice none 0 0] 60):=⟨_,rfl⟩
 have hb0:Below w.heap.size w W0:=by rw [hW0];exact bel_by
 have hz0:W0.heap.size=w.heap.size+2:=by rw [hW0];simp
 have hR0:Blk W0 w.heap.size 60 #[.int .u8 0,.int .i64 0,.string ⟨#[]⟩,.slice none 0 0]:=by rw [hW0];exact (Blk.new w _ _).alloc _
 have hX0:Blk W0 (w.heap.size+1) 60 #[.int .u8 109,.int .i64 0,.string ⟨#[]⟩,.slice none 0 0]:=by rw [hW0];simpa using Blk.new (w.alloc (.cells #[.int .u8 0,.int .i64 0,.string ⟨#[]⟩,.slice none 0 0] 60)) 60 #[.int .u8 109,.int .i64 0,.string ⟨#[]⟩,.slice none 0 0]
 have hr0:Rdr W0 g s p 0:=h.below hb0
 have HC:=hide (rdWhole_any hr0 hs hp)
 have HE:=hide (fun (W:World) (p':Nat) (x:Int) (hW:Rdr W g s p' x)=>werr_any hW)
 have HG:=hide (getF_109 (s.data.toList.drop p) rfl)
 have ng0:g≠w.heap.size:=by omega
 have ng1:g≠w.heap.size+1:=by omega
 clear h hr0
 go_enter Tryz.func92,Tryz.ntmps92
 go_upto_region 2 with fail
 rw [←hW0]
 clear hW0
 go_wp2_with fail
 refine HC.out.mono ?_
 rintro e w1 (⟨a,p',hg,rfl,hr1,hp1,ho1⟩ | ⟨x,hg,hx0,rfl,hr1,ho1⟩)
 ·have hX1:=hX0.grown ho1 (fun e=>ng1 (Option.some.inj e).symm)
  have hR1:=hR0.grown ho1 (fun e=>ng0 (Option.some.inj e).symm)
  have hG1:w.grownBy w1 (some g):=only_trans (only_of_below hb0 _) ho1
  have Hg:=hide hg
  clear hg ho1
  have k1:=hX1.cell 2
  have f1:=hX1.frozen 2
  simp only [List.getElem?_toArray,List.getElem?_cons_zero,List.getElem?_cons_succ] at k1
  have hX2:=hX1.set_ 2 (.string (bs a))
  have hR2:=hR1.far (p:=⟨w.heap.size+1,2,none⟩) (by simp) (.string (bs a))
  have hr2:Rdr (w1.setCell ⟨w.heap.size+1,2,none⟩ (.string (bs a))) g s p' 0:=Blk.far hr1 (p:=⟨w.heap.size+1,2,none⟩) ng1 (.string (bs a))
  have hG2:w.grownBy (w1.setCell ⟨w.heap.size+1,2,none⟩ (.string (bs a))) (some g):=only_setCell hG1 (.inr (by simp)) _
  go_wp2_with (first  | fail)
  refine (HE.out _ _ _ hr2).mono ?_
  rintro e w2 ⟨rfl,rfl⟩
  go_upto_region 19 with fail
  generalize w1.setCell ⟨w.heap.size+1,2,none⟩ (.string (bs a))=w5 at hX2 hR2 hr2 hG2 ⊢
  have x0:=hX2.cell 0
  have x1:=hX2.cell 1
  have x2:=hX2.cell 2
  have x3:=hX2.cell 3
  have r0:=hR2.cell 0
  have r1:=hR2.cell 1
  have r2:=hR2.cell 2
  have r3:=hR2.cell 3
  have t0:=hR2.frozen 0
  have t1:=hR2.frozen 1
  have t2:=hR2.frozen 2
  have t3:=hR2.frozen 3
  simp at x0 x1 x2 x3 r0 r1 r2 r3
  have hF:=fin4 hR2 (.int .u8 109) (.int .i64 0) (.string (bs a)) (.slice none 0 0)
  have hGF:=only_fin4 hG2 (Nat.le_refl w.heap.size) (.int .u8 109) (.int .i64 0) (.string (bs a)) (.slice none 0 0)
  have hrF:=rdr_fin4 hr2 ng0 (.int .u8 109) (.int .i64 0) (.string (bs a)) (.slice none 0 0)
  clear k1 f1 hX1 hR1 hX2 hR2 hr1 hr2 hG1 hG2 HC HE hX0 hR0 hb0 hz0
  go_wp2_with fail
  generalize (((w5.setCell ⟨w.heap.size,0,none⟩ (.int .u8 109)).setCell ⟨w.heap.size,1,none⟩ (.int .i64 0)).setCell ⟨w.heap.size,2,none⟩ (.string (bs a))).setCell ⟨w.heap.size,3,none⟩ (.slice none 0 0)=wF at hF hGF hrF ⊢
  have q0:=hF.cell 0
  have q1:=hF.cell 1
  have q2:=hF.cell 2
  have q3:=hF.cell 3
  simp at q0 q1 q2 q3
  have HF:=hide (show GetP 109 w g s p (.returned (.tuple #[.agg #[.int .u8 109,.int .i64 0,.string (bs a),.slice none 0 0],.int .i64 0])) wF from .inl ⟨⟨109,0,a,[]⟩,.slice none 0 0,p',by rw [HG.out,Hg.out];rfl,rfl,newC_nil _ _ _,hrF,hp1,hGF⟩)
  clear x0 x1 x2 x3 r0 r1 r2 r3 t0 t1 t2 t3 hF hGF hrF HG Hg
  exact bodyPost_ret (v:=.tuple #[.agg #[.int .u8 109,.int .i64 0,.string (bs a),.slice none 0 0],.int .i64 0]) (by simp [results,Tryz.results92,go_sem,q0,q1,q2,q3]) rfl HF.out
 ·have hX1:=hX0.grown ho1 (fun e=>ng1 (Option.some.inj e).symm)
  have hR1:=hR0.grown ho1 (fun e=>ng0 (Option.some.inj e).symm)
  have hG1:w.grownBy w1 (some g):=only_trans (only_of_below hb0 _) ho1
  have HF0:=hide (show getF 109 (s.data.toList.drop p)=.no x from by rw [HG.out,hg];rfl)
  have hx1:((x:Int) == 0)=false:=by rw [beq_eq_false_iff_ne];omega
  have hx2:((x:Int) != 0)=true:=by simp [bne,hx1]
  have Hx0:=hide hx0
  clear hg ho1 HG hx0
  have k1:=hX1.cell 2
  have f1:=hX1.frozen 2
  simp only [List.getElem?_toArray,List.getElem?_cons_zero,List.getElem?_cons_succ] at k1
  have hX2:=hX1.set_ 2 (.string ⟨#[]⟩)
  have hR2:=hR1.far (p:=⟨w.heap.size+1,2,none⟩) (by simp) (.string ⟨#[]⟩)
  have hr2:Rdr (w1.setCell ⟨w.heap.size+1,2,none⟩ (.string ⟨#[]⟩)) g s p x:=Blk.far hr1 (p:=⟨w.heap.size+1,2,none⟩) ng1 (.string ⟨#[]⟩)
  have hG2:w.grownBy (w1.setCell ⟨w.heap.size+1,2,none⟩ (.string ⟨#[]⟩)) (some g):=only_setCell hG1 (.inr (by simp)) _
  go_wp2_with (first  | fail)
  refine (HE.out _ _ _ hr2).mono ?_
  rintro e w2 ⟨rfl,rfl⟩
  go_wp2_with fail
  refine (HE.out _ _ _ hr2).mono ?_
  rintro e w3 ⟨rfl,rfl⟩
  go_upto_region 19 with fail
  generalize w1.setCell ⟨w.heap.size+1,2,none⟩ (.string ⟨#[]⟩)=w5 at hX2 hR2 hr2 hG2 ⊢
  have x0:=hX2.cell 0
  have x1:=hX2.cell 1
  have x2:=hX2.cell 2
  have x3:=hX2.cell 3
  have r0:=hR2.cell 0
  have r1:=hR2.cell 1
  have r2:=hR2.cell 2
  have r3:=hR2.cell 3
  have t0:=hR2.frozen 0
  have t1:=hR2.frozen 1
  have t2:=hR2.frozen 2
  have t3:=hR2.frozen 3
  simp at x0 x1 x2 x3 r0 r1 r2 r3
  have hF:=fin4 hR2 (.int .u8 109) (.int .i64 0) (.string ⟨#[]⟩) (.slice none 0 0)
  have hGF:=only_fin4 hG2 (Nat.le_refl w.heap.size) (.int .u8 109) (.int .i64 0) (.string ⟨#[]⟩) (.slice none 0 0)
  have hrF:=rdr_fin4 hr2 ng0 (.int .u8 109) (.int .i64 0) (.string ⟨#[]⟩) (.slice none 0 0)
  clear k1 f1 hX1 hR1 hX2 hR2 hr1 hr2 hG1 hG2 HC HE hX0 hR0 hb0 hz0
  go_wp2_with fail
  generalize (((w5.setCell ⟨w.heap.size,0,none⟩ (.int .u8 109)).setCell ⟨w.heap.size,1,none⟩ (.int .i64 0)).setCell ⟨w.heap.size,2,none⟩ (.string ⟨#[]⟩)).setCell ⟨w.heap.size,3,none⟩ (.slice none 0 0)=wF at hF hGF hrF ⊢
  have q0:=hF.cell 0
  have q1:=hF.cell 1
  have q2:=hF.cell 2
  have q3:=hF.cell 3
  simp at q0 q1 q2 q3
  have HF:=hide (show GetP 109 w g s p (.returned (.tuple #[.agg #[.int .u8 109,.int .i64 0,.string ⟨#[]⟩,.slice none 0 0],.int .i64 x])) wF from .inr ⟨x,_,_,_,_,_,_,HF0.out,Hx0.out,rfl,hGF⟩)
  clear x0 x1 x2 x3 r0 r1 r2 r3 t0 t1 t2 t3 hF hGF hrF
  exact bodyPost_ret (v:=.tuple #[.agg #[.int .u8 109,.int .i64 0,.string ⟨#[]⟩,.slice none 0 0],.int .i64 x]) (by simp [results,Tryz.results92,go_sem,q0,q1,q2,q3]) rfl HF.out

theorem getw_99 (h:Rdr w g s p 0) (hs:s.size≤1000000) (hp:p≤s.size):Calls Tryz.prog 92 #[.pointer (some ⟨g,0,none⟩),.int .u8 99] w (GetP 99 w g s p):=by
 have hlt:=Blk.lt h
 obtain ⟨W0,hW0⟩:∃W0,W0=(w.alloc (.cells #[.int .u8 0,.int .i64 0,.string ⟨#[]⟩,.slice none 0 0] 60)).alloc (.cells #[.int .u8 99,.int .i64 0,.string ⟨#[]⟩,.slice none 0 0] 60):=⟨_,rfl⟩
 have hb0:Below w.heap.size w W0:=by rw [hW0];exact bel_by
 have hz0:W0.heap.size=w.heap.size+2:=by rw [hW0];simp
 have hR0:Blk W0 w.heap.size 60 #[.int .u8 0,.int .i64 0,.string ⟨#[]⟩,.slice none 0 0]:=by rw [hW0];exact (Blk.new w _ _).alloc _
 have hX0:Blk W0 (w.heap.size+1) 60 #[.int .u8 99,.int .i64 0,.string ⟨#[]⟩,.slice none 0 0]:=by rw [hW0];simpa using Blk.new (w.alloc (.cells #[.int .u8 0,.int .i64 0,.string ⟨#[]⟩,.slice none 0 0] 60)) 60 #[.int .u8 99,.int .i64 0,.string ⟨#[]⟩,.slice none 0 0]
 have hr0:Rdr W0 g s p 0:=h.below hb0
 have HC:=hide (rdBytes_any hr0 hs hp)
 have HE:=hide (fun (W:World) (p':Nat) (x:Int) (hW:Rdr W g s p' x)=>werr_any hW)
 have HG:=hide (getF_99 (s.data.toList.drop p) rfl)
 have ng0:g≠w.heap.size:=by omega
 have ng1:g≠w.heap.size+1:=by omega
 clear h hr0
 go_enter Tryz.func92,Tryz.ntmps92
 go_upto_region 2 with fail
 rw [←hW0]
 clear hW0
 go_wp2_with fail
 refine HC.out.mono ?_
 rintro e w1 (⟨a,p',hg,rfl,hr1,hp1,ho1⟩ | ⟨x,hg,hx0,rfl,hr1,ho1⟩)
 ·have hX1:=hX0.grown ho1 (fun e=>ng1 (Option.some.inj e).symm)
  have hR1:=hR0.grown ho1 (fun e=>ng0 (Option.some.inj e).symm)
  have hG1:w.grownBy w1 (some g):=only_trans (only_of_below hb0 _) ho1
  have Hg:=hide hg
  clear hg ho1
  have k1:=hX1.cell 2
  have f1:=hX1.frozen 2
  simp only [List.getElem?_toArray,List.getElem?_cons_zero,List.getElem?_cons_succ] at k1
  have hX2:=hX1.set_ 2 (.string (bs a))
  have hR2:=hR1.far (p:=⟨w.heap.size+1,2,none⟩) (by simp) (.string (bs a))
  have hr2:Rdr (w1.setCell ⟨w.heap.size+1,2,none⟩ (.string (bs a))) g s p' 0:=Blk.far hr1 (p:=⟨w.heap.size+1,2,none⟩) ng1 (.string (bs a))
  have hG2:w.grownBy (w1.setCell ⟨w.heap.size+1,2,none⟩ (.string (bs a))) (some g):=only_setCell hG1 (.inr (by simp)) _
  go_wp2_with (first  | fail)
  refine (HE.out _ _ _ hr2).mono ?_
  rintro e w2 ⟨rfl,rfl⟩
  go_upto_region 19 with fail
  generalize w1.setCell ⟨w.heap.size+1,2,none⟩ (.string (bs a))=w5 at hX2 hR2 hr2 hG2 ⊢
  have x0:=hX2.cell 0
  have x1:=hX2.cell 1
  have x2:=hX2.cell 2
  have x3:=hX2.cell 3
  have r0:=hR2.cell 0
  have r1:=hR2.cell 1
  have r2:=hR2.cell 2
  have r3:=hR2.cell 3
  have t0:=hR2.frozen 0
  have t1:=hR2.frozen 1
  have t2:=hR2.frozen 2
  have t3:=hR2.frozen 3
  simp at x0 x1 x2 x3 r0 r1 r2 r3
  have hF:=fin4 hR2 (.int .u8 99) (.int .i64 0) (.string (bs a)) (.slice none 0 0)
  have hGF:=only_fin4 hG2 (Nat.le_refl w.heap.size) (.int .u8 99) (.int .i64 0) (.string (bs a)) (.slice none 0 0)
  have hrF:=rdr_fin4 hr2 ng0 (.int .u8 99) (.int .i64 0) (.string (bs a)) (.slice none 0 0)
  clear k1 f1 hX1 hR1 hX2 hR2 hr1 hr2 hG1 hG2 HC HE hX0 hR0 hb0 hz0
  go_wp2_with fail
  generalize (((w5.setCell ⟨w.heap.size,0,none⟩ (.int .u8 99)).setCell ⟨w.heap.size,1,none⟩ (.int .i64 0)).setCell ⟨w.heap.size,2,none⟩ (.string (bs a))).setCell ⟨w.heap.size,3,none⟩ (.slice none 0 0)=wF at hF hGF hrF ⊢
  have q0:=hF.cell 0
  have q1:=hF.cell 1
  have q2:=hF.cell 2
  have q3:=hF.cell 3
  simp at q0 q1 q2 q3
  have HF:=hide (show GetP 99 w g s p (.returned (.tuple #[.agg #[.int .u8 99,.int .i64 0,.string (bs a),.slice none 0 0],.int .i64 0])) wF from .inl ⟨⟨99,0,a,[]⟩,.slice none 0 0,p',by rw [HG.out,Hg.out];rfl,rfl,newC_nil _ _ _,hrF,hp1,hGF⟩)
  clear x0 x1 x2 x3 r0 r1 r2 r3 t0 t1 t2 t3 hF hGF hrF HG Hg
  exact bodyPost_ret (v:=.tuple #[.agg #[.int .u8 99,.int .i64 0,.string (bs a),.slice none 0 0],.int .i64 0]) (by simp [results,Tryz.results92,go_sem,q0,q1,q2,q3]) rfl HF.out
 ·have hX1:=hX0.grown ho1 (fun e=>ng1 (Option.some.inj e).symm)
  have hR1:=hR0.grown ho1 (fun e=>ng0 (Option.some.inj e).symm)
  have hG1:w.grownBy w1 (some g):=only_trans (only_of_below hb0 _) ho1
  have HF0:=hide (show getF 99 (s.data.toList.drop p)=.no x from by rw [HG.out,hg];rfl)
  have hx1:((x:Int) == 0)=false:=by rw [beq_eq_false_iff_ne];omega
  have hx2:((x:Int) != 0)=true:=by simp [bne,hx1]
  have Hx0:=hide hx0
  clear hg ho1 HG hx0
  have k1:=hX1.cell 2
  have f1:=hX1.frozen 2
  simp only [List.getElem?_toArray,List.getElem?_cons_zero,List.getElem?_cons_succ] at k1
  have hX2:=hX1.set_ 2 (.string ⟨#[]⟩)
  have hR2:=hR1.far (p:=⟨w.heap.size+1,2,none⟩) (by simp) (.string ⟨#[]⟩)
  have hr2:Rdr (w1.setCell ⟨w.heap.size+1,2,none⟩ (.string ⟨#[]⟩)) g s p x:=Blk.far hr1 (p:=⟨w.heap.size+1,2,none⟩) ng1 (.string ⟨#[]⟩)
  have hG2:w.grownBy (w1.setCell ⟨w.heap.size+1,2,none⟩ (.string ⟨#[]⟩)) (some g):=only_setCell hG1 (.inr (by simp)) _
  go_wp2_with (first  | fail)
  refine (HE.out _ _ _ hr2).mono ?_
  rintro e w2 ⟨rfl,rfl⟩
  go_wp2_with fail
  refine (HE.out _ _ _ hr2).mono ?_
  rintro e w3 ⟨rfl,rfl⟩
  go_upto_region 19 with fail
  generalize w1.setCell ⟨w.heap.size+1,2,none⟩ (.string ⟨#[]⟩)=w5 at hX2 hR2 hr2 hG2 ⊢
  have x0:=hX2.cell 0
  have x1:=hX2.cell 1
  have x2:=hX2.cell 2
  have x3:=hX2.cell 3
  have r0:=hR2.cell 0
  have r1:=hR2.cell 1
  have r2:=hR2.cell 2
  have r3:=hR2.cell 3
  have t0:=hR2.frozen 0
  have t1:=hR2.frozen 1
  have t2:=hR2.frozen 2
  have t3:=hR2.frozen 3
  simp at x0 x1 x2 x3 r0 r1 r2 r3
  have hF:=fin4 hR2 (.int .u8 99) (.int .i64 0) (.string ⟨#[]⟩) (.slice none 0 0)
  have hGF:=only_fin4 hG2 (Nat.le_refl w.heap.size) (.int .u8 99) (.int .i64 0) (.string ⟨#[]⟩) (.slice none 0 0)
  have hrF:=rdr_fin4 hr2 ng0 (.int .u8 99) (.int .i64 0) (.string ⟨#[]⟩) (.slice none 0 0)
  clear k1 f1 hX1 hR1 hX2 hR2 hr1 hr2 hG1 hG2 HC HE hX0 hR0 hb0 hz0
  go_wp2_with fail
  generalize (((w5.setCell ⟨w.heap.size,0,none⟩ (.int .u8 99)).setCell ⟨w.heap.size,1,none⟩ (.int .i64 0)).setCell ⟨w.heap.size,2,none⟩ (.string ⟨#[]⟩)).setCell ⟨w.heap.size,3,none⟩ (.slice none 0 0)=wF at hF hGF hrF ⊢
  have q0:=hF.cell 0
  have q1:=hF.cell 1
  have q2:=hF.cell 2
  have q3:=hF.cell 3
  simp at q0 q1 q2 q3
  have HF:=hide (show GetP 99 w g s p (.returned (.tuple #[.agg #[.int .u8 99,.int .i64 0,.string ⟨#[]⟩,.slice none 0 0],.int .i64 x])) wF from .inr ⟨x,_,_,_,_,_,_,HF0.out,Hx0.out,rfl,hGF⟩)
  clear x0 x1 x2 x3 r0 r1 r2 r3 t0 t1 t2 t3 hF hGF hrF
  exact bodyPost_ret (v:=.tuple #[.agg #[.int .u8 99,.int .i64 0,.string ⟨#[]⟩,.slice none 0 0],.int .i64 x]) (by simp [results,Tryz.results92,go_sem,q0,q1,q2,q3]) rfl HF.out

theorem getw_else (k:Nat) (h0:¬ k=98) (h1:¬ k=117) (h2:¬ k=109) (h3:¬ k=110) (h4:¬ k=99) (h5:¬ k=101) (h:Rdr w g s p 0) (hs:s.size≤1000000) (hp:p≤s.size):Calls Tryz.prog 92 #[.pointer (some ⟨g,0,none⟩),.int .u8 k] w (GetP k w g s p):=by
 have hlt:=Blk.lt h
 obtain ⟨W0,hW0⟩:∃W0,W0=(w.alloc (.cells #[.int .u8 0,.int .i64 0,.string ⟨#[]⟩,.slice none 0 0] 60)).alloc (.cells #[.int .u8 k,.int .i64 0,.string ⟨#[]⟩,.slice none 0 0] 60):=⟨_,rfl⟩
 have hb0:Below w.heap.size w W0:=by rw [hW0];exact bel_by
 have hz0:W0.heap.size=w.heap.size+2:=by rw [hW0];simp
 have hR0:Blk W0 w.heap.size 60 #[.int .u8 0,.int .i64 0,.string ⟨#[]⟩,.slice none 0 0]:=by rw [hW0];exact (Blk.new w _ _).alloc _
 have hX0:Blk W0 (w.heap.size+1) 60 #[.int .u8 k,.int .i64 0,.string ⟨#[]⟩,.slice none 0 0]:=by rw [hW0];simpa using Blk.new (w.alloc (.cells #[.int .u8 0,.int .i64 0,.string ⟨#[]⟩,.slice none 0 0] 60)) 60 #[.int .u8 k,.int .i64 0,.string ⟨#[]⟩,.slice none 0 0]
 have hr0:Rdr W0 g s p 0:=h.below hb0
 have HC:=hide (rdText_any hr0 hs hp)
 have HE:=hide (fun (W:World) (p':Nat) (x:Int) (hW:Rdr W g s p' x)=>werr_any hW)
 have HG:=hide (getF_else (s.data.toList.drop p) h0 h1 h2 h3 h4 h5)
 have n0:(((k:Nat):Int) == 98)=false:=i_ne h0
 have n1:(((k:Nat):Int) == 117)=false:=i_ne h1
 have n2:(((k:Nat):Int) == 109)=false:=i_ne h2
 have n3:(((k:Nat):Int) == 110)=false:=i_ne h3
 have n4:(((k:Nat):Int) == 99)=false:=i_ne h4
 have n5:(((k:Nat):Int) == 101)=false:=i_ne h5
 have ng0:g≠w.heap.size:=by omega
 have ng1:g≠w.heap.size+1:=by omega
 clear h hr0 h0 h1 h2 h3 h4 h5
 go_enter Tryz.func92,Tryz.ntmps92
 go_upto_region 2 with fail
 rw [←hW0]
 clear hW0
 go_wp2_with fail
 refine HC.out.mono ?_
 rintro e w1 (⟨a,p',hg,rfl,hr1,hp1,ho1⟩ | ⟨x,hg,hx0,rfl,hr1,ho1⟩)
 ·have hX1:=hX0.grown ho1 (fun e=>ng1 (Option.some.inj e).symm)
  have hR1:=hR0.grown ho1 (fun e=>ng0 (Option.some.inj e).symm)
  have hG1:w.grownBy w1 (some g):=only_trans (only_of_below hb0 _) ho1
  have Hg:=hide hg
  clear hg ho1
  have k1:=hX1.cell 2
  have f1:=hX1.frozen 2
  simp only [List.getElem?_toArray,List.getElem?_cons_zero,List.getElem?_cons_succ] at k1
  have hX2:=hX1.set_ 2 (.string (bs a))
  have hR2:=hR1.far (p:=⟨w.heap.size+1,2,none⟩) (by simp) (.string (bs a))
  have hr2:Rdr (w1.setCell ⟨w.heap.size+1,2,none⟩ (.string (bs a))) g s p' 0:=Blk.far hr1 (p:=⟨w.heap.size+1,2,none⟩) ng1 (.string (bs a))
  have hG2:w.grownBy (w1.setCell ⟨w.heap.size+1,2,none⟩ (.string (bs a))) (some g):=only_setCell hG1 (.inr (by simp)) _
  go_wp2_with (first  | fail)
  refine (HE.out _ _ _ hr2).mono ?_
  rintro e w2 ⟨rfl,rfl⟩
  go_upto_region 19 with fail
  generalize w1.setCell ⟨w.heap.size+1,2,none⟩ (.string (bs a))=w5 at hX2 hR2 hr2 hG2 ⊢
  have x0:=hX2.cell 0
  have x1:=hX2.cell 1
  have x2:=hX2.cell 2
  have x3:=hX2.cell 3
  have r0:=hR2.cell 0
  have r1:=hR2.cell 1
  have r2:=hR2.cell 2
  have r3:=hR2.cell 3
  have t0:=hR2.frozen 0
  have t1:=hR2.frozen 1
  have t2:=hR2.frozen 2
  have t3:=hR2.frozen 3
  simp at x0 x1 x2 x3 r0 r1 r2 r3
  have hF:=fin4 hR2 (.int .u8 k) (.int .i64 0) (.string (bs a)) (.slice none 0 0)
  have hGF:=only_fin4 hG2 (Nat.le_refl w.heap.size) (.int .u8 k) (.int .i64 0) (.string (bs a)) (.slice none 0 0)
  have hrF:=rdr_fin4 hr2 ng0 (.int .u8 k) (.int .i64 0) (.string (bs a)) (.slice none 0 0)
  clear k1 f1 hX1 hR1 hX2 hR2 hr1 hr2 hG1 hG2 HC HE hX0 hR0 hb0 hz0
  go_wp2_with fail
  generalize (((w5.setCell ⟨w.heap.size,0,none⟩ (.int .u8 k)).setCell ⟨w.heap.size,1,none⟩ (.int .i64 0)).setCell ⟨w.heap.size,2,none⟩ (.string (bs a))).setCell ⟨w.heap.size,3,none⟩ (.slice none 0 0)=wF at hF hGF hrF ⊢
  have q0:=hF.cell 0
  have q1:=hF.cell 1
  have q2:=hF.cell 2
  have q3:=hF.cell 3
  simp at q0 q1 q2 q3
  have HF:=hide (show GetP k w g s p (.returned (.tuple #[.agg #[.int .u8 k,.int .i64 0,.string (bs a),.slice none 0 0],.int .i64 0])) wF from .inl ⟨⟨k,0,a,[]⟩,.slice none 0 0,p',by rw [HG.out,Hg.out];rfl,rfl,newC_nil _ _ _,hrF,hp1,hGF⟩)
  clear x0 x1 x2 x3 r0 r1 r2 r3 t0 t1 t2 t3 hF hGF hrF HG Hg
  exact bodyPost_ret (v:=.tuple #[.agg #[.int .u8 k,.int .i64 0,.string (bs a),.slice none 0 0],.int .i64 0]) (by simp [results,Tryz.results92,go_sem,q0,q1,q2,q3]) rfl HF.out
 ·have hX1:=hX0.grown ho1 (fun e=>ng1 (Option.some.inj e).symm)
  have hR1:=hR0.grown ho1 (fun e=>ng0 (Option.some.inj e).symm)
  have hG1:w.grownBy w1 (some g):=only_trans (only_of_below hb0 _) ho1
  have HF0:=hide (show getF k (s.data.toList.drop p)=.no x from by rw [HG.out,hg];rfl)
  have hx1:((x:Int) == 0)=false:=by rw [beq_eq_false_iff_ne];omega
  have hx2:((x:Int) != 0)=true:=by simp [bne,hx1]
  have Hx0:=hide hx0
  clear hg ho1 HG hx0
  have k1:=hX1.cell 2
  have f1:=hX1.frozen 2
  simp only [List.getElem?_toArray,List.getElem?_cons_zero,List.getElem?_cons_succ] at k1
  have hX2:=hX1.set_ 2 (.string ⟨#[]⟩)
  have hR2:=hR1.far (p:=⟨w.heap.size+1,2,none⟩) (by simp) (.string ⟨#[]⟩)
  have hr2:Rdr (w1.setCell ⟨w.heap.size+1,2,none⟩ (.string ⟨#[]⟩)) g s p x:=Blk.far hr1 (p:=⟨w.heap.size+1,2,none⟩) ng1 (.string ⟨#[]⟩)
  have hG2:w.grownBy (w1.setCell ⟨w.heap.size+1,2,none⟩ (.string ⟨#[]⟩)) (some g):=only_setCell hG1 (.inr (by simp)) _
  go_wp2_with (first  | fail)
  refine (HE.out _ _ _ hr2).mono ?_
  rintro e w2 ⟨rfl,rfl⟩
  go_wp2_with fail
  refine (HE.out _ _ _ hr2).mono ?_
  rintro e w3 ⟨rfl,rfl⟩
  go_upto_region 19 with fail
  generalize w1.setCell ⟨w.heap.size+1,2,none⟩ (.string ⟨#[]⟩)=w5 at hX2 hR2 hr2 hG2 ⊢
  have x0:=hX2.cell 0
  have x1:=hX2.cell 1
  have x2:=hX2.cell 2
  have x3:=hX2.cell 3
  have r0:=hR2.cell 0
  have r1:=hR2.cell 1
  have r2:=hR2.cell 2
  have r3:=hR2.cell 3
  have t0:=hR2.frozen 0
  have t1:=hR2.frozen 1
  have t2:=hR2.frozen 2
  have t3:=hR2.frozen 3
  simp at x0 x1 x2 x3 r0 r1 r2 r3
  have hF:=fin4 hR2 (.int .u8 k) (.int .i64 0) (.string ⟨#[]⟩) (.slice none 0 0)
  have hGF:=only_fin4 hG2 (Nat.le_refl w.heap.size) (.int .u8 k) (.int .i64 0) (.string ⟨#[]⟩) (.slice none 0 0)
  have hrF:=rdr_fin4 hr2 ng0 (.int .u8 k) (.int .i64 0) (.string ⟨#[]⟩) (.slice none 0 0)
  clear k1 f1 hX1 hR1 hX2 hR2 hr1 hr2 hG1 hG2 HC HE hX0 hR0 hb0 hz0
  go_wp2_with fail
  generalize (((w5.setCell ⟨w.heap.size,0,none⟩ (.int .u8 k)).setCell ⟨w.heap.size,1,none⟩ (.int .i64 0)).setCell ⟨w.heap.size,2,none⟩ (.string ⟨#[]⟩)).setCell ⟨w.heap.size,3,none⟩ (.slice none 0 0)=wF at hF hGF hrF ⊢
  have q0:=hF.cell 0
  have q1:=hF.cell 1
  have q2:=hF.cell 2
  have q3:=hF.cell 3
  simp at q0 q1 q2 q3
  have HF:=hide (show GetP k w g s p (.returned (.tuple #[.agg #[.int .u8 k,.int .i64 0,.string ⟨#[]⟩,.slice none 0 0],.int .i64 x])) wF from .inr ⟨x,_,_,_,_,_,_,HF0.out,Hx0.out,rfl,hGF⟩)
  clear x0 x1 x2 x3 r0 r1 r2 r3 t0 t1 t2 t3 hF hGF hrF
  exact bodyPost_ret (v:=.tuple #[.agg #[.int .u8 k,.int .i64 0,.string ⟨#[]⟩,.slice none 0 0],.int .i64 x]) (by simp [results,Tryz.results92,go_sem,q0,q1,q2,q3]) rfl HF.out

theorem getw_117 (h:Rdr w g s p 0) (hs:s.size≤1000000) (hp:p≤s.size):Calls Tryz.prog 92 #[.pointer (some ⟨g,0,none⟩),.int .u8 117] w (GetP 117 w g s p):=by
 have hlt:=Blk.lt h
 obtain ⟨W0,hW0⟩:∃W0,W0=(w.alloc (.cells #[.int .u8 0,.int .i64 0,.string ⟨#[]⟩,.slice none 0 0] 60)).alloc (.cells #[.int .u8 117,.int .i64 0,.string ⟨#[]⟩,.slice none 0 0] 60):=⟨_,rfl⟩
 have hb0:Below w.heap.size w W0:=by rw [hW0];exact bel_by
 have hz0:W0.heap.size=w.heap.size+2:=by rw [hW0];simp
 have hR0:Blk W0 w.heap.size 60 #[.int .u8 0,.int .i64 0,.string ⟨#[]⟩,.slice none 0 0]:=by rw [hW0];exact (Blk.new w _ _).alloc _
 have hX0:Blk W0 (w.heap.size+1) 60 #[.int .u8 117,.int .i64 0,.string ⟨#[]⟩,.slice none 0 0]:=by rw [hW0];simpa using Blk.new (w.alloc (.cells #[.int .u8 0,.int .i64 0,.string ⟨#[]⟩,.slice none 0 0] 60)) 60 #[.int .u8 117,.int .i64 0,.string ⟨#[]⟩,.slice none 0 0]
 have hr0:Rdr W0 g s p 0:=h.below hb0
 have HC:=hide (rdU32_any hr0 hs hp)
 have HE:=hide (fun (W:World) (p':Nat) (x:Int) (hW:Rdr W g s p' x)=>werr_any hW)
 have HG:=hide (getF_117 (s.data.toList.drop p) rfl)
 have ng0:g≠w.heap.size:=by omega
 have ng1:g≠w.heap.size+1:=by omega
 clear h hr0
 go_enter Tryz.func92,Tryz.ntmps92
 go_upto_region 2 with fail
 rw [←hW0]
 clear hW0
 go_wp2_with fail
 refine HC.out.mono ?_
 rintro e w1 (⟨a,p',hg,rfl,hr1,hp1,ho1⟩ | ⟨x,hg,hx0,rfl,hr1,ho1⟩)
 ·have hX1:=hX0.grown ho1 (fun e=>ng1 (Option.some.inj e).symm)
  have hR1:=hR0.grown ho1 (fun e=>ng0 (Option.some.inj e).symm)
  have hG1:w.grownBy w1 (some g):=only_trans (only_of_below hb0 _) ho1
  have Hg:=hide hg
  have hw:IntKind.i64.wrap ((a:Nat):Int)=a:=wrap_small _ (by omega) (by have:=(gU32_get hg).2;omega)
  clear hg ho1
  have k1:=hX1.cell 1
  have f1:=hX1.frozen 1
  simp only [List.getElem?_toArray,List.getElem?_cons_zero,List.getElem?_cons_succ] at k1
  have hX2:=hX1.set_ 1 (.int .i64 a)
  have hR2:=hR1.far (p:=⟨w.heap.size+1,1,none⟩) (by simp) (.int .i64 a)
  have hr2:Rdr (w1.setCell ⟨w.heap.size+1,1,none⟩ (.int .i64 a)) g s p' 0:=Blk.far hr1 (p:=⟨w.heap.size+1,1,none⟩) ng1 (.int .i64 a)
  have hG2:w.grownBy (w1.setCell ⟨w.heap.size+1,1,none⟩ (.int .i64 a)) (some g):=only_setCell hG1 (.inr (by simp)) _
  go_wp2_with (first  | fail)
  refine (HE.out _ _ _ hr2).mono ?_
  rintro e w2 ⟨rfl,rfl⟩
  go_upto_region 19 with fail
  generalize w1.setCell ⟨w.heap.size+1,1,none⟩ (.int .i64 a)=w5 at hX2 hR2 hr2 hG2 ⊢
  have x0:=hX2.cell 0
  have x1:=hX2.cell 1
  have x2:=hX2.cell 2
  have x3:=hX2.cell 3
  have r0:=hR2.cell 0
  have r1:=hR2.cell 1
  have r2:=hR2.cell 2
  have r3:=hR2.cell 3
  have t0:=hR2.frozen 0
  have t1:=hR2.frozen 1
  have t2:=hR2.frozen 2
  have t3:=hR2.frozen 3
  simp at x0 x1 x2 x3 r0 r1 r2 r3
  have hF:=fin4 hR2 (.int .u8 117) (.int .i64 a) (.string ⟨#[]⟩) (.slice none 0 0)
  have hGF:=only_fin4 hG2 (Nat.le_refl w.heap.size) (.int .u8 117) (.int .i64 a) (.string ⟨#[]⟩) (.slice none 0 0)
  have hrF:=rdr_fin4 hr2 ng0 (.int .u8 117) (.int .i64 a) (.string ⟨#[]⟩) (.slice none 0 0)
  clear k1 f1 hX1 hR1 hX2 hR2 hr1 hr2 hG1 hG2 HC HE hX0 hR0 hb0 hz0
  go_wp2_with fail
  generalize (((w5.setCell ⟨w.heap.size,0,none⟩ (.int .u8 117)).setCell ⟨w.heap.size,1,none⟩ (.int .i64 a)).setCell ⟨w.heap.size,2,none⟩ (.string ⟨#[]⟩)).setCell ⟨w.heap.size,3,none⟩ (.slice none 0 0)=wF at hF hGF hrF ⊢
  have q0:=hF.cell 0
  have q1:=hF.cell 1
  have q2:=hF.cell 2
  have q3:=hF.cell 3
  simp at q0 q1 q2 q3
  have HF:=hide (show GetP 117 w g s p (.returned (.tuple #[.agg #[.int .u8 117,.int .i64 a,.string ⟨#[]⟩,.slice none 0 0],.int .i64 0])) wF from .inl ⟨⟨117,a,[],[]⟩,.slice none 0 0,p',by rw [HG.out,Hg.out];rfl,rfl,newC_nil _ _ _,hrF,hp1,hGF⟩)
  clear x0 x1 x2 x3 r0 r1 r2 r3 t0 t1 t2 t3 hF hGF hrF HG Hg
  exact bodyPost_ret (v:=.tuple #[.agg #[.int .u8 117,.int .i64 a,.string ⟨#[]⟩,.slice none 0 0],.int .i64 0]) (by simp [results,Tryz.results92,go_sem,q0,q1,q2,q3]) rfl HF.out
 ·have hX1:=hX0.grown ho1 (fun e=>ng1 (Option.some.inj e).symm)
  have hR1:=hR0.grown ho1 (fun e=>ng0 (Option.some.inj e).symm)
  have hG1:w.grownBy w1 (some g):=only_trans (only_of_below hb0 _) ho1
  have HF0:=hide (show getF 117 (s.data.toList.drop p)=.no x from by rw [HG.out,hg];rfl)
  have hx1:((x:Int) == 0)=false:=by rw [beq_eq_false_iff_ne];omega
  have hx2:((x:Int) != 0)=true:=by simp [bne,hx1]
  have Hx0:=hide hx0
  clear hg ho1 HG hx0
  have k1:=hX1.cell 1
  have f1:=hX1.frozen 1
  simp only [List.getElem?_toArray,List.getElem?_cons_zero,List.getElem?_cons_succ] at k1
  have hX2:=hX1.set_ 1 (.int .i64 0)
  have hR2:=hR1.far (p:=⟨w.heap.size+1,1,none⟩) (by simp) (.int .i64 0)
  have hr2:Rdr (w1.setCell ⟨w.heap.size+1,1,none⟩ (.int .i64 0)) g s p x:=Blk.far hr1 (p:=⟨w.heap.size+1,1,none⟩) ng1 (.int .i64 0)
  have hG2:w.grownBy (w1.setCell ⟨w.heap.size+1,1,none⟩ (.int .i64 0)) (some g):=only_setCell hG1 (.inr (by simp)) _
  go_wp2_with (first  | fail)
  refine (HE.out _ _ _ hr2).mono ?_
  rintro e w2 ⟨rfl,rfl⟩
  go_wp2_with fail
  refine (HE.out _ _ _ hr2).mono ?_
  rintro e w3 ⟨rfl,rfl⟩
  go_upto_region 19 with fail
  generalize w1.setCell ⟨w.heap.size+1,1,none⟩ (.int .i64 0)=w5 at hX2 hR2 hr2 hG2 ⊢
  have x0:=hX2.cell 0
  have x1:=hX2.cell 1
  have x2:=hX2.cell 2
  have x3:=hX2.cell 3
  have r0:=hR2.cell 0
  have r1:=hR2.cell 1
  have r2:=hR2.cell 2
  have r3:=hR2.cell 3
  have t0:=hR2.frozen 0
  have t1:=hR2.frozen 1
  have t2:=hR2.frozen 2
  have t3:=hR2.frozen 3
  simp at x0 x1 x2 x3 r0 r1 r2 r3
  have hF:=fin4 hR2 (.int .u8 117) (.int .i64 0) (.string ⟨#[]⟩) (.slice none 0 0)
  have hGF:=only_fin4 hG2 (Nat.le_refl w.heap.size) (.int .u8 117) (.int .i64 0) (.string ⟨#[]⟩) (.slice none 0 0)
  have hrF:=rdr_fin4 hr2 ng0 (.int .u8 117) (.int .i64 0) (.string ⟨#[]⟩) (.slice none 0 0)
  clear k1 f1 hX1 hR1 hX2 hR2 hr1 hr2 hG1 hG2 HC HE hX0 hR0 hb0 hz0
  go_wp2_with fail
  generalize (((w5.setCell ⟨w.heap.size,0,none⟩ (.int .u8 117)).setCell ⟨w.heap.size,1,none⟩ (.int .i64 0)).setCell ⟨w.heap.size,2,none⟩ (.string ⟨#[]⟩)).setCell ⟨w.heap.size,3,none⟩ (.slice none 0 0)=wF at hF hGF hrF ⊢
  have q0:=hF.cell 0
  have q1:=hF.cell 1
  have q2:=hF.cell 2
  have q3:=hF.cell 3
  simp at q0 q1 q2 q3
  have HF:=hide (show GetP 117 w g s p (.returned (.tuple #[.agg #[.int .u8 117,.int .i64 0,.string ⟨#[]⟩,.slice none 0 0],.int .i64 x])) wF from .inr ⟨x,_,_,_,_,_,_,HF0.out,Hx0.out,rfl,hGF⟩)
  clear x0 x1 x2 x3 r0 r1 r2 r3 t0 t1 t2 t3 hF hGF hrF
  exact bodyPost_ret (v:=.tuple #[.agg #[.int .u8 117,.int .i64 0,.string ⟨#[]⟩,.slice none 0 0],.int .i64 x]) (by simp [results,Tryz.results92,go_sem,q0,q1,q2,q3]) rfl HF.out

theorem getw_98 (h:Rdr w g s p 0) (hs:s.size≤1000000) (hp:p≤s.size):Calls Tryz.prog 92 #[.pointer (some ⟨g,0,none⟩),.int .u8 98] w (GetP 98 w g s p):=by
 have hlt:=Blk.lt h
 obtain ⟨W0,hW0⟩:∃W0,W0=(w.alloc (.cells #[.int .u8 0,.int .i64 0,.string ⟨#[]⟩,.slice none 0 0] 60)).alloc (.cells #[.int .u8 98,.int .i64 0,.string ⟨#[]⟩,.slice none 0 0] 60):=⟨_,rfl⟩
 have hb0:Below w.heap.size w W0:=by rw [hW0];exact bel_by
 have hz0:W0.heap.size=w.heap.size+2:=by rw [hW0];simp
 have hR0:Blk W0 w.heap.size 60 #[.int .u8 0,.int .i64 0,.string ⟨#[]⟩,.slice none 0 0]:=by rw [hW0];exact (Blk.new w _ _).alloc _
 have hX0:Blk W0 (w.heap.size+1) 60 #[.int .u8 98,.int .i64 0,.string ⟨#[]⟩,.slice none 0 0]:=by rw [hW0];simpa using Blk.new (w.alloc (.cells #[.int .u8 0,.int .i64 0,.string ⟨#[]⟩,.slice none 0 0] 60)) 60 #[.int .u8 98,.int .i64 0,.string ⟨#[]⟩,.slice none 0 0]
 have hr0:Rdr W0 g s p 0:=h.below hb0
 have HC:=hide (rdBool_any hr0 hs hp)
 have HE:=hide (fun (W:World) (p':Nat) (x:Int) (hW:Rdr W g s p' x)=>werr_any hW)
 have HG:=hide (getF_98 (s.data.toList.drop p) rfl)
 have HTf:=hide (fun W=>(show Calls Tryz.prog 155 #[.bool false] W (fun e w2=>e=.returned (.int .i64 0)∧w2=W) from truth_any false W))
 have ng0:g≠w.heap.size:=by omega
 have ng1:g≠w.heap.size+1:=by omega
 clear h hr0
 go_enter Tryz.func92,Tryz.ntmps92
 go_upto_region 2 with fail
 rw [←hW0]
 clear hW0
 go_wp2_with fail
 refine HC.out.mono ?_
 rintro e w1 (⟨a,p',hg,rfl,hr1,hp1,ho1⟩ | ⟨x,hg,hx0,rfl,hr1,ho1⟩)
 ·have hX1:=hX0.grown ho1 (fun e=>ng1 (Option.some.inj e).symm)
  have hR1:=hR0.grown ho1 (fun e=>ng0 (Option.some.inj e).symm)
  have hG1:w.grownBy w1 (some g):=only_trans (only_of_below hb0 _) ho1
  have Hg:=hide hg
  have HTa:=hide (fun W=>(show Calls Tryz.prog 155 #[.bool (a == 1)] W (fun e w2=>e=.returned (.int .i64 a)∧w2=W) from by rcases gBool_01 hg with rfl | rfl;exact truth_any false W;exact truth_any true W))
  clear hg ho1
  have k1:=hX1.cell 1
  have f1:=hX1.frozen 1
  simp only [List.getElem?_toArray,List.getElem?_cons_zero,List.getElem?_cons_succ] at k1
  have hX2:=hX1.set_ 1 (.int .i64 a)
  have hR2:=hR1.far (p:=⟨w.heap.size+1,1,none⟩) (by simp) (.int .i64 a)
  have hr2:Rdr (w1.setCell ⟨w.heap.size+1,1,none⟩ (.int .i64 a)) g s p' 0:=Blk.far hr1 (p:=⟨w.heap.size+1,1,none⟩) ng1 (.int .i64 a)
  have hG2:w.grownBy (w1.setCell ⟨w.heap.size+1,1,none⟩ (.int .i64 a)) (some g):=only_setCell hG1 (.inr (by simp)) _
  go_wp2_with (first | (go_at_call 155;(with_reducible refine (HTa.out _).mono ?_);(rintro e w9 ⟨rfl,e9⟩);(obtain rfl:w1=w9:=e9.symm)) | (go_at_call 155;(with_reducible refine (HTf.out _).mono ?_);(rintro e w9 ⟨rfl,e9⟩);(obtain rfl:w1=w9:=e9.symm)) | fail)
  refine (HE.out _ _ _ hr2).mono ?_
  rintro e w2 ⟨rfl,rfl⟩
  go_upto_region 19 with fail
  generalize w1.setCell ⟨w.heap.size+1,1,none⟩ (.int .i64 a)=w5 at hX2 hR2 hr2 hG2 ⊢
  have x0:=hX2.cell 0
  have x1:=hX2.cell 1
  have x2:=hX2.cell 2
  have x3:=hX2.cell 3
  have r0:=hR2.cell 0
  have r1:=hR2.cell 1
  have r2:=hR2.cell 2
  have r3:=hR2.cell 3
  have t0:=hR2.frozen 0
  have t1:=hR2.frozen 1
  have t2:=hR2.frozen 2
  have t3:=hR2.frozen 3
  simp at x0 x1 x2 x3 r0 r1 r2 r3
  have hF:=fin4 hR2 (.int .u8 98) (.int .i64 a) (.string ⟨#[]⟩) (.slice none 0 0)
  have hGF:=only_fin4 hG2 (Nat.le_refl w.heap.size) (.int .u8 98) (.int .i64 a) (.string ⟨#[]⟩) (.slice none 0 0)
  have hrF:=rdr_fin4 hr2 ng0 (.int .u8 98) (.int .i64 a) (.string ⟨#[]⟩) (.slice none 0 0)
  clear k1 f1 hX1 hR1 hX2 hR2 hr1 hr2 hG1 hG2 HC HE hX0 hR0 hb0 hz0
  go_wp2_with fail
  generalize (((w5.setCell ⟨w.heap.size,0,none⟩ (.int .u8 98)).setCell ⟨w.heap.size,1,none⟩ (.int .i64 a)).setCell ⟨w.heap.size,2,none⟩ (.string ⟨#[]⟩)).setCell ⟨w.heap.size,3,none⟩ (.slice none 0 0)=wF at hF hGF hrF ⊢
  have q0:=hF.cell 0
  have q1:=hF.cell 1
  have q2:=hF.cell 2
  have q3:=hF.cell 3
  simp at q0 q1 q2 q3
  have HF:=hide (show GetP 98 w g s p (.returned (.tuple #[.agg #[.int .u8 98,.int .i64 a,.string ⟨#[]⟩,.slice none 0 0],.int .i64 0])) wF from .inl ⟨⟨98,a,[],[]⟩,.slice none 0 0,p',by rw [HG.out,Hg.out];rfl,rfl,newC_nil _ _ _,hrF,hp1,hGF⟩)
  clear x0 x1 x2 x3 r0 r1 r2 r3 t0 t1 t2 t3 hF hGF hrF HG Hg
  exact bodyPost_ret (v:=.tuple #[.agg #[.int .u8 98,.int .i64 a,.string ⟨#[]⟩,.slice none 0 0],.int .i64 0]) (by simp [results,Tryz.results92,go_sem,q0,q1,q2,q3]) rfl HF.out
 ·have hX1:=hX0.grown ho1 (fun e=>ng1 (Option.some.inj e).symm)
  have hR1:=hR0.grown ho1 (fun e=>ng0 (Option.some.inj e).symm)
  have hG1:w.grownBy w1 (some g):=only_trans (only_of_below hb0 _) ho1
  have HF0:=hide (show getF 98 (s.data.toList.drop p)=.no x from by rw [HG.out,hg];rfl)
  have hx1:((x:Int) == 0)=false:=by rw [beq_eq_false_iff_ne];omega
  have hx2:((x:Int) != 0)=true:=by simp [bne,hx1]
  have Hx0:=hide hx0
  clear hg ho1 HG hx0
  have k1:=hX1.cell 1
  have f1:=hX1.frozen 1
  simp only [List.getElem?_toArray,List.getElem?_cons_zero,List.getElem?_cons_succ] at k1
  have hX2:=hX1.set_ 1 (.int .i64 0)
  have hR2:=hR1.far (p:=⟨w.heap.size+1,1,none⟩) (by simp) (.int .i64 0)
  have hr2:Rdr (w1.setCell ⟨w.heap.size+1,1,none⟩ (.int .i64 0)) g s p x:=Blk.far hr1 (p:=⟨w.heap.size+1,1,none⟩) ng1 (.int .i64 0)
  have hG2:w.grownBy (w1.setCell ⟨w.heap.size+1,1,none⟩ (.int .i64 0)) (some g):=only_setCell hG1 (.inr (by simp)) _
  go_wp2_with (first | (go_at_call 155;(with_reducible refine (HTa.out _).mono ?_);(rintro e w9 ⟨rfl,e9⟩);(obtain rfl:w1=w9:=e9.symm)) | (go_at_call 155;(with_reducible refine (HTf.out _).mono ?_);(rintro e w9 ⟨rfl,e9⟩);(obtain rfl:w1=w9:=e9.symm)) | fail)
  refine (HE.out _ _ _ hr2).mono ?_
  rintro e w2 ⟨rfl,rfl⟩
  go_wp2_with fail
  refine (HE.out _ _ _ hr2).mono ?_
  rintro e w3 ⟨rfl,rfl⟩
  go_upto_region 19 with fail
  generalize w1.setCell ⟨w.heap.size+1,1,none⟩ (.int .i64 0)=w5 at hX2 hR2 hr2 hG2 ⊢
  have x0:=hX2.cell 0
  have x1:=hX2.cell 1
  have x2:=hX2.cell 2
  have x3:=hX2.cell 3
  have r0:=hR2.cell 0
  have r1:=hR2.cell 1
  have r2:=hR2.cell 2
  have r3:=hR2.cell 3
  have t0:=hR2.frozen 0
  have t1:=hR2.frozen 1
  have t2:=hR2.frozen 2
  have t3:=hR2.frozen 3
  simp at x0 x1 x2 x3 r0 r1 r2 r3
  have hF:=fin4 hR2 (.int .u8 98) (.int .i64 0) (.string ⟨#[]⟩) (.slice none 0 0)
  have hGF:=only_fin4 hG2 (Nat.le_refl w.heap.size) (.int .u8 98) (.int .i64 0) (.string ⟨#[]⟩) (.slice none 0 0)
  have hrF:=rdr_fin4 hr2 ng0 (.int .u8 98) (.int .i64 0) (.string ⟨#[]⟩) (.slice none 0 0)
  clear k1 f1 hX1 hR1 hX2 hR2 hr1 hr2 hG1 hG2 HC HE hX0 hR0 hb0 hz0
  go_wp2_with fail
  generalize (((w5.setCell ⟨w.heap.size,0,none⟩ (.int .u8 98)).setCell ⟨w.heap.size,1,none⟩ (.int .i64 0)).setCell ⟨w.heap.size,2,none⟩ (.string ⟨#[]⟩)).setCell ⟨w.heap.size,3,none⟩ (.slice none 0 0)=wF at hF hGF hrF ⊢
  have q0:=hF.cell 0
  have q1:=hF.cell 1
  have q2:=hF.cell 2
  have q3:=hF.cell 3
  simp at q0 q1 q2 q3
  have HF:=hide (show GetP 98 w g s p (.returned (.tuple #[.agg #[.int .u8 98,.int .i64 0,.string ⟨#[]⟩,.slice none 0 0],.int .i64 x])) wF from .inr ⟨x,_,_,_,_,_,_,HF0.out,Hx0.out,rfl,hGF⟩)
  clear x0 x1 x2 x3 r0 r1 r2 r3 t0 t1 t2 t3 hF hGF hrF
  exact bodyPost_ret (v:=.tuple #[.agg #[.int .u8 98,.int .i64 0,.string ⟨#[]⟩,.slice none 0 0],.int .i64 x]) (by simp [results,Tryz.results92,go_sem,q0,q1,q2,q3]) rfl HF.out
end
end Go.Proofs.YtnhekaepgpbijaaGreatDoor
