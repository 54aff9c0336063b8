/- Several of my texts in one: GetX, RSp, RGetX. -/
import Derived.Test.YtnhekaepgpbijaaGreatDoorJGetW
import Derived.Test.YtnhekaepgpbijaaGreatDoorJRPutG
import Derived.Test.YtnhekaepgpbijaaGreatDoorJRRdG
import Derived.Test.YtnhekaepgpbijaaGreatDoorJAsG
set_option linter.unusedVariables false
set_option linter.unusedSimpArgs false
set_option maxHeartbeats 40000000
set_option maxRecDepth 100000
namespace Go.Proofs.YtnhekaepgpbijaaGreatDoor
open Go.RowKit Go.ChangeShapes Go.WideShapes Go.Sort
theorem Al {s:ByteArray} {p:Nat} {a r':List UInt8} (h:dz (s.data.toList.drop p)=.ok a r') (hs:s.size≤1000000):a.length≤1000000:=by
 have h1:=congrArg List.length (jX h).1;have h2:=jB s p;simp only [List.length_append,bC,bU] at h1;omega
theorem IG {r:List UInt8} {x:Nat} (h:dz r=.no x):nA r=.no x:=by
 unfold nA;rw [h]
section
variable {w : World} {g p : Nat} {s : ByteArray}

theorem N7 (hM:jq w) (h:Rdr w g s p 0) (hs:s.size≤1000000) (hp:p≤s.size):Calls Tryz.prog 92 #[.pointer (some ⟨g,0,none⟩),.int .u8 110] w (jb 110 w g s p):=by
 have hlt:=Blk.lt h
 obtain ⟨W0,hW0⟩:∃W0,W0=(w.alloc (.cells #[.int .u8 0,.int .i64 0,.string ⟨#[]⟩,.slice none 0 0] 60)).alloc (.cells #[.int .u8 110,.int .i64 0,.string ⟨#[]⟩,.slice none 0 0] 60):=⟨_,rfl⟩
 have hb0:Below w.heap.size w W0:=by rw [hW0];exact aa
 have hz0:W0.heap.size=w.heap.size+2:=by rw [hW0];simp
 have hR0:Blk W0 w.heap.size 60 #[.int .u8 0,.int .i64 0,.string ⟨#[]⟩,.slice none 0 0]:=by rw [hW0];exact (Blk.new w _ _).alloc _
 have hX0:Blk W0 (w.heap.size+1) 60 #[.int .u8 110,.int .i64 0,.string ⟨#[]⟩,.slice none 0 0]:=by rw [hW0];simpa using Blk.new (w.alloc (.cells #[.int .u8 0,.int .i64 0,.string ⟨#[]⟩,.slice none 0 0] 60)) 60 #[.int .u8 110,.int .i64 0,.string ⟨#[]⟩,.slice none 0 0]
 have hr0:Rdr W0 g s p 0:=h.below hb0;have hM0:jq W0:=hM.below hb0;have HE:=hide (fun (W:World) (p':Nat) (x:Int) (hW:Rdr W g s p' x)=>bi hW);have HC:=hide (nK hr0 hs hp);have HS:=hide (fun (W:World) (a:List UInt8) (hW:jq W) (ha:a.length≤1000000)=>uR (w:=W) (bs a) hW (by rw [aR];omega));have HG:=hide (Cc (k:=110) (s.data.toList.drop p) rfl);have Hs:=hide hs;have ng0:g≠w.heap.size:=by omega
 have ng1:g≠w.heap.size+1:=by omega
 go_enter Tryz.func92,Tryz.ntmps92;go_upto_region 2 with fail;rw [←hW0];clear hW0;go_wp2_with fail;refine HC.out.mono ?_;rintro e w1 (⟨a,p',hg,rfl,hr1',hp1,ho1⟩ | ⟨x,hg,hx0,rfl,hr1',ho1⟩)
 ·have hX1':=hX0.grown ho1 (fun e=>ng1 (Option.some.inj e).symm)
  have hR1':=hR0.grown ho1 (fun e=>ng0 (Option.some.inj e).symm);have hG1':w.grownBy w1 (some g):=au (ai hb0 _) ho1;have hz1:w.heap.size+2≤w1.heap.size:=by have:=ho1.size;omega
  have HSS:=hide (HS.out w1 a (hM0.grown hr0 ho1) (Al hg Hs.out));rw [aU] at HSS;have hgn:=wO hg;have Hg:=hide hgn;clear hg hgn ho1 HC HS hM0 hr0 hM h;go_wp2_with fail;refine HSS.out.mono ?_;rintro e w2 ⟨v,rfl,hN,hb2⟩;obtain ⟨A,c,rfl,hc,hSl⟩:=hN;have hX1:=hX1'.below hb2 hX1'.lt;have hR1:=hR1'.below hb2 hR1'.lt;have hr1:Rdr w2 g s p' 0:=hr1'.below hb2;have hG1:w.grownBy w2 (some g):=au hG1' (ai hb2 _)
  have hN1:bG w1.heap.size w2 (.slice A (splitN a).2.length c) (splitN a).2:=⟨A,c,rfl,hc,hSl⟩
  clear hX1' hR1' hr1' hG1' hSl HSS hb2 hc
  by_cases hk:(splitN a).1=0
  ·rw [hk]
   have HGO:=hide (show dR 110 (s.data.toList.drop p)=.ok ⟨110,0,[],(splitN a).2⟩ (s.data.toList.drop p') from by rw [HG.out,Hg.out,if_pos hk];rfl);generalize (splitN a).2=ls at hN1 HGO ⊢;clear hk Hg HG;have k1:=hX1.cell 3;have f1:=hX1.frozen 3;simp only [List.getElem?_toArray,List.getElem?_cons_zero,List.getElem?_cons_succ] at k1;have hX2:=hX1.set_ 3 (.slice A ls.length c);have hR2:=hR1.far (p:=⟨w.heap.size+1,3,none⟩) (by simp) (.slice A ls.length c);have hr2:Rdr (w2.setCell ⟨w.heap.size+1,3,none⟩ (.slice A ls.length c)) g s p' 0:=Blk.far hr1 (p:=⟨w.heap.size+1,3,none⟩) ng1 (.slice A ls.length c);have hG2:w.grownBy (w2.setCell ⟨w.heap.size+1,3,none⟩ (.slice A ls.length c)) (some g):=ag hG1 (.inr (by simp)) _;have hN2:=hN1.set_ (p:=⟨w.heap.size+1,3,none⟩) (by show w.heap.size+1<_;omega) (.slice A ls.length c);go_wp2_with fail;refine (HE.out _ _ _ hr2).mono ?_;rintro e w3 ⟨rfl,rfl⟩;go_upto_region 19 with fail;generalize w2.setCell ⟨w.heap.size+1,3,none⟩ (.slice A ls.length c)=w5 at hX2 hR2 hr2 hG2 hN2 ⊢;have x0:=hX2.cell 0;have x1:=hX2.cell 1;have x2:=hX2.cell 2;have x3:=hX2.cell 3;have r0:=hR2.cell 0;have r1:=hR2.cell 1;have r2:=hR2.cell 2;have r3:=hR2.cell 3;have t0:=hR2.frozen 0;have t1:=hR2.frozen 1;have t2:=hR2.frozen 2;have t3:=hR2.frozen 3;simp at x0 x1 x2 x3 r0 r1 r2 r3;have hF:=mP hR2 (.int .u8 110) (.int .i64 0) (.string ⟨#[]⟩) (.slice A ls.length c);have hGF:=bX hG2 (Nat.le_refl w.heap.size) (.int .u8 110) (.int .i64 0) (.string ⟨#[]⟩) (.slice A ls.length c);have hrF:=dA hr2 ng0 (.int .u8 110) (.int .i64 0) (.string ⟨#[]⟩) (.slice A ls.length c)
   have hNF:=(((hN2.set_ (p:=⟨w.heap.size,0,none⟩) (by show w.heap.size<_;omega) (.int .u8 110)).set_ (p:=⟨w.heap.size,1,none⟩) (by show w.heap.size<_;omega) (.int .i64 0)).set_ (p:=⟨w.heap.size,2,none⟩) (by show w.heap.size<_;omega) (.string ⟨#[]⟩)).set_ (p:=⟨w.heap.size,3,none⟩) (by show w.heap.size<_;omega) (.slice A ls.length c);clear k1 f1 hX1 hR1 hX2 hR2 hr1 hr2 hG1 hG2 HE hX0 hR0 hb0 hz0;go_wp2_with fail;generalize (((w5.setCell ⟨w.heap.size,0,none⟩ (.int .u8 110)).setCell ⟨w.heap.size,1,none⟩ (.int .i64 0)).setCell ⟨w.heap.size,2,none⟩ (.string ⟨#[]⟩)).setCell ⟨w.heap.size,3,none⟩ (.slice A ls.length c)=wF at hF hGF hrF hNF ⊢;have q0:=hF.cell 0;have q1:=hF.cell 1;have q2:=hF.cell 2;have q3:=hF.cell 3;simp at q0 q1 q2 q3;have HF:=hide (show jb 110 w g s p (.returned (.tuple #[.agg #[.int .u8 110,.int .i64 0,.string ⟨#[]⟩,.slice A ls.length c],.int .i64 0])) wF from .inl ⟨⟨110,0,[],ls⟩,.slice A ls.length c,p',HGO.out,rfl,hNF.mono (by omega),hrF,hp1,hGF⟩);clear x0 x1 x2 x3 r0 r1 r2 r3 t0 t1 t2 t3 hF hGF hrF hNF;exact bodyPost_ret (v:=.tuple #[.agg #[.int .u8 110,.int .i64 0,.string ⟨#[]⟩,.slice A ls.length c],.int .i64 0]) (by simp [results,Tryz.results92,go_sem,q0,q1,q2,q3]) rfl HF.out
  ·have HGO:=hide (show dR 110 (s.data.toList.drop p)=.no (splitN a).1 from by rw [HG.out,Hg.out,if_neg hk];rfl)
   have Hk:=hide hk;generalize (splitN a).2=ls at hN1 ⊢;generalize (splitN a).1=ke at HGO Hk ⊢;clear hk Hg HG hN1;have k1:=hX1.cell 3;have f1:=hX1.frozen 3;simp only [List.getElem?_toArray,List.getElem?_cons_zero,List.getElem?_cons_succ] at k1;have hX2:=hX1.set_ 3 (.slice A ls.length c);have hR2:=hR1.far (p:=⟨w.heap.size+1,3,none⟩) (by simp) (.slice A ls.length c);have hr2:Rdr (w2.setCell ⟨w.heap.size+1,3,none⟩ (.slice A ls.length c)) g s p' 0:=Blk.far hr1 (p:=⟨w.heap.size+1,3,none⟩) ng1 (.slice A ls.length c);have hG2:w.grownBy (w2.setCell ⟨w.heap.size+1,3,none⟩ (.slice A ls.length c)) (some g):=ag hG1 (.inr (by simp)) _;go_wp2_with fail;refine (HE.out _ _ _ hr2).mono ?_;rintro e w3 ⟨rfl,rfl⟩;go_upto_region 19 with fail;generalize w2.setCell ⟨w.heap.size+1,3,none⟩ (.slice A ls.length c)=w5 at hX2 hR2 hr2 hG2 ⊢;have x0:=hX2.cell 0;have x1:=hX2.cell 1;have x2:=hX2.cell 2;have x3:=hX2.cell 3;have r0:=hR2.cell 0;have r1:=hR2.cell 1;have r2:=hR2.cell 2;have r3:=hR2.cell 3;have t0:=hR2.frozen 0;have t1:=hR2.frozen 1;have t2:=hR2.frozen 2;have t3:=hR2.frozen 3;simp at x0 x1 x2 x3 r0 r1 r2 r3;have hF:=mP hR2 (.int .u8 110) (.int .i64 0) (.string ⟨#[]⟩) (.slice A ls.length c);have hGF:=bX hG2 (Nat.le_refl w.heap.size) (.int .u8 110) (.int .i64 0) (.string ⟨#[]⟩) (.slice A ls.length c);have hrF:=dA hr2 ng0 (.int .u8 110) (.int .i64 0) (.string ⟨#[]⟩) (.slice A ls.length c);clear k1 f1 hX1 hR1 hX2 hR2 hr1 hr2 hG1 hG2 HE hX0 hR0 hb0 hz0;go_wp2_with fail;generalize (((w5.setCell ⟨w.heap.size,0,none⟩ (.int .u8 110)).setCell ⟨w.heap.size,1,none⟩ (.int .i64 0)).setCell ⟨w.heap.size,2,none⟩ (.string ⟨#[]⟩)).setCell ⟨w.heap.size,3,none⟩ (.slice A ls.length c)=wF at hF hGF hrF ⊢
   have q0:=hF.cell 0;have q1:=hF.cell 1;have q2:=hF.cell 2;have q3:=hF.cell 3;simp at q0 q1 q2 q3;have HF:=hide (show jb 110 w g s p (.returned (.tuple #[.agg #[.int .u8 110,.int .i64 0,.string ⟨#[]⟩,.slice A ls.length c],.int .i64 ke])) wF from .inr ⟨ke,_,_,_,_,_,_,HGO.out,Hk.out,rfl,hGF⟩);clear x0 x1 x2 x3 r0 r1 r2 r3 t0 t1 t2 t3 hF hGF hrF;exact bodyPost_ret (v:=.tuple #[.agg #[.int .u8 110,.int .i64 0,.string ⟨#[]⟩,.slice A ls.length c],.int .i64 ke]) (by simp [results,Tryz.results92,go_sem,q0,q1,q2,q3]) rfl HF.out
 ·have hX1':=hX0.grown ho1 (fun e=>ng1 (Option.some.inj e).symm)
  have hR1':=hR0.grown ho1 (fun e=>ng0 (Option.some.inj e).symm);have hG1':w.grownBy w1 (some g):=au (ai hb0 _) ho1;have HSS:=hide (HS.out w1 [] (hM0.grown hr0 ho1) (by simp));rw [aU,show bs []=⟨#[]⟩ from rfl,show splitN []=(0,[]) from rfl] at HSS;have HGO:=hide (show dR 110 (s.data.toList.drop p)=.no x from by rw [HG.out,IG hg];rfl);have hx1:((x:Int) == 0)=false:=by rw [beq_eq_false_iff_ne];omega
  have hx2:((x:Int) != 0)=true:=by simp [bne,hx1]
  have Hx0:=hide hx0;clear hg ho1 HC HS hM0 hr0 hM h HG hx0;go_wp2_with fail;refine HSS.out.mono ?_;rintro e w2 ⟨v,rfl,hN,hb2⟩;obtain ⟨A,c,rfl,hc,hSl⟩:=hN;have hX1:=hX1'.below hb2 hX1'.lt;have hR1:=hR1'.below hb2 hR1'.lt;have hr1:Rdr w2 g s p x:=hr1'.below hb2;have hG1:w.grownBy w2 (some g):=au hG1' (ai hb2 _);clear hX1' hR1' hr1' hG1' hSl HSS hb2 hc;have k1:=hX1.cell 3;have f1:=hX1.frozen 3;simp only [List.getElem?_toArray,List.getElem?_cons_zero,List.getElem?_cons_succ] at k1;have hX2:=hX1.set_ 3 (.slice A 0 c);have hR2:=hR1.far (p:=⟨w.heap.size+1,3,none⟩) (by simp) (.slice A 0 c);have hr2:Rdr (w2.setCell ⟨w.heap.size+1,3,none⟩ (.slice A 0 c)) g s p x:=Blk.far hr1 (p:=⟨w.heap.size+1,3,none⟩) ng1 (.slice A 0 c);have hG2:w.grownBy (w2.setCell ⟨w.heap.size+1,3,none⟩ (.slice A 0 c)) (some g):=ag hG1 (.inr (by simp)) _;go_wp2_with fail;refine (HE.out _ _ _ hr2).mono ?_;rintro e w3 ⟨rfl,rfl⟩;go_wp2_with fail;refine (HE.out _ _ _ hr2).mono ?_;rintro e w4 ⟨rfl,rfl⟩;go_upto_region 19 with fail;generalize w2.setCell ⟨w.heap.size+1,3,none⟩ (.slice A 0 c)=w5 at hX2 hR2 hr2 hG2 ⊢;have x0:=hX2.cell 0;have x1:=hX2.cell 1;have x2:=hX2.cell 2;have x3:=hX2.cell 3;have r0:=hR2.cell 0;have r1:=hR2.cell 1;have r2:=hR2.cell 2;have r3:=hR2.cell 3;have t0:=hR2.frozen 0;have t1:=hR2.frozen 1;have t2:=hR2.frozen 2;have t3:=hR2.frozen 3;simp at x0 x1 x2 x3 r0 r1 r2 r3;have hF:=mP hR2 (.int .u8 110) (.int .i64 0) (.string ⟨#[]⟩) (.slice A 0 c);have hGF:=bX hG2 (Nat.le_refl w.heap.size) (.int .u8 110) (.int .i64 0) (.string ⟨#[]⟩) (.slice A 0 c)
  have hrF:=dA hr2 ng0 (.int .u8 110) (.int .i64 0) (.string ⟨#[]⟩) (.slice A 0 c);clear k1 f1 hX1 hR1 hX2 hR2 hr1 hr2 hG1 hG2 HE hX0 hR0 hb0 hz0;go_wp2_with fail;generalize (((w5.setCell ⟨w.heap.size,0,none⟩ (.int .u8 110)).setCell ⟨w.heap.size,1,none⟩ (.int .i64 0)).setCell ⟨w.heap.size,2,none⟩ (.string ⟨#[]⟩)).setCell ⟨w.heap.size,3,none⟩ (.slice A 0 c)=wF at hF hGF hrF ⊢;have q0:=hF.cell 0;have q1:=hF.cell 1;have q2:=hF.cell 2;have q3:=hF.cell 3;simp at q0 q1 q2 q3;have HF:=hide (show jb 110 w g s p (.returned (.tuple #[.agg #[.int .u8 110,.int .i64 0,.string ⟨#[]⟩,.slice A 0 c],.int .i64 x])) wF from .inr ⟨x,_,_,_,_,_,_,HGO.out,Hx0.out,rfl,hGF⟩);clear x0 x1 x2 x3 r0 r1 r2 r3 t0 t1 t2 t3 hF hGF hrF;exact bodyPost_ret (v:=.tuple #[.agg #[.int .u8 110,.int .i64 0,.string ⟨#[]⟩,.slice A 0 c],.int .i64 x]) (by simp [results,Tryz.results92,go_sem,q0,q1,q2,q3]) rfl HF.out

def Q9 (w:World) (g:Nat) (s:ByteArray) (p:Nat) (e:Ending) (w':World):Prop :=
 (∃ls v p',jQ (s.data.toList.drop p)=.ok ls (s.data.toList.drop p')∧e=.returned (.tuple #[v,.int .i64 0])∧bG w.heap.size w' v ls∧Rdr w' g s p' 0∧p'≤s.size∧w.grownBy w' (some g)) ∨
 (∃x:Nat,∃A n c p' y,jQ (s.data.toList.drop p)=.no x∧x≠0∧e=.returned (.tuple #[.slice A n c,.int .i64 x])∧Rdr w' g s p' y∧(y=0∨y=x)∧w.grownBy w' (some g))

theorem uj {a b c:World} {g:Nat} {row:Option Nat} (h:a.grownBy b (some g)) (k:b.grownBy c row) (hr:∀i,row=some i→a.heap.size≤i):a.grownBy c (some g) :=
 ⟨k.os.trans h.os,k.tape.trans h.tape,k.output.trans h.output,Nat.le_trans h.size k.size,fun i hi hn=>(k.block i (Nat.lt_of_lt_of_le hi h.size) (fun e=>by have:=hr i e.symm;omega)).trans (h.block i hi hn)⟩
theorem pu {w:World} {B n c:Nat} {A:Option Addr} {e:TypeId} {ls:List (List UInt8)} (h:w.ownsRow B e 1 (.slice A n c) n ((ls.map bs).map Value.string)) (hn:n=ls.length):bG B w (.slice A n c) ls:=by
 subst hn
 have hc:ls.length≤c:=by
  rcases h.2 with ⟨e1,e2⟩ | ⟨g,cap,cur,e1,_,_,hnc,_⟩
  ·injection e1 with _ e3 e4
   omega
  ·injection e1 with _ _ e4
   omega
 refine ⟨A,c,rfl,hc,by rw [List.length_map,List.length_map,Nat.mul_one],fun hp=>?_⟩;obtain ⟨g,cap,hv,_,hlt⟩:=h.form hp;have hA:A=some ⟨g,0,none⟩:=by injection hv
 subst hA;exact ⟨_,rfl,(h.lt g rfl).1,hlt,h.cells (g:=g) rfl⟩
theorem OD {R:Res (List (List UInt8))} {ls:List (List UInt8)} {a:List UInt8} {r:List UInt8} {n:Nat} {q:List UInt8} (h:R=(dw (n+1) q).map (ls++·)) (ht:dz q=.ok a r):R=(dw n r).map ((ls++[a])++·):=by
 rw [h];simp only [dw];rw [ht];simp only
 cases dw n r with
 | no e=>rfl
 | ok l r2=>simp [Res.map]
theorem R4 {R:Res (List (List UInt8))} {ls:List (List UInt8)} {n x:Nat} {q:List UInt8} (h:R=(dw (n+1) q).map (ls++·)) (ht:dz q=.no x):R=.no x:=by
 rw [h];simp only [dw];rw [ht];rfl
theorem M6 {r:List UInt8} {x:Nat} (h:mM r=.no x):jQ r=.no x:=by
 unfold jQ;rw [h]
structure QR (w:World) (g:Nat) (s:ByteArray) (R:Res (List (List UInt8))) (N j:Nat) (A:Option Addr) (c:Nat) (wr:World):Prop where
 st:∃ls:List (List UInt8),ls.length=j∧wr.ownsRow w.heap.size 9 1 (.slice A j c) j ((ls.map bs).map Value.string) ∧
  ((∃p',Rdr wr g s p' 0∧p'≤s.size∧R=(dw (N - j) (s.data.toList.drop p')).map (ls++·))∨(∃p',∃x:Nat,Rdr wr g s p' x∧x≠0∧R=.no x))
 gb:w.grownBy wr (some g)
theorem IL (h:Rdr w g s p 0) (hs:s.size≤1000000) (hp:p≤s.size):Calls Tryz.prog 162 #[.pointer (some ⟨g,0,none⟩)] w (Q9 w g s p):=by
  have hlt:=Blk.lt h;obtain ⟨iI,hiI,hI0,hI1,hI2⟩:=dK FT;have HU:=hide (xP h hs hp);have HE:=hide (fun (W:World) (p':Nat) (x:Int) (hW:Rdr W g s p' x)=>bi hW);have HTx:=hide (fun (W:World) (p':Nat) (hW:Rdr W g s p' 0) (hp':p'≤s.size)=>nK hW hs hp');have HTe:=hide (fun (W:World) (p':Nat) (x:Int) (hW:Rdr W g s p' x) (hx:(x == 0)=false)=>EI hW hx);clear h;go_enter Tryz.func162,Tryz.ntmps162;go_wp2_with fail;refine HU.out.mono ?_;rintro e w1 (⟨n,p1,hg,rfl,hr1,hp1,ho1⟩ | ⟨x,hg,hx0,rfl,hr1,ho1⟩)
  · by_cases h8:8<n
    · have h8':(8:Int)<n:=by omega
      have HG:=hide (show jQ (s.data.toList.drop p)=.no 2 from by rw [tu hg,if_pos h8]);clear hg;go_wp2_with fail;go_ret2;exact .inr ⟨2,none,0,0,p1,0,HG.out,by decide,rfl,hr1,.inl rfl,ho1⟩
    · have h8':¬ (8:Int)<n:=by omega
      have HG:=hide (show jQ (s.data.toList.drop p)=dw (2*n) (s.data.toList.drop p1) from by rw [tu hg,if_neg h8]);have hm1:(2*(n:Int)) % 4294967296=((2*n:Nat):Int):=by omega
      have hm2:IntKind.u32.wrap (2*(n:Int))=((2*n:Nat):Int):=by
        simp only [IntKind.wrap,IntKind.bits,IntKind.signed];simp;omega
      obtain ⟨N,hN⟩:∃N,N=2*n:=⟨_,rfl⟩
      have hN16:N≤16:=by omega
      have HI0:=hide (show QR w g s (dw (2*n) (s.data.toList.drop p1)) N 0 none 0 w1 from ⟨⟨[],rfl,World.ownsRow_nil _ _ _ _,.inl ⟨p1,hr1,hp1,by rw [hN,Nat.sub_zero];cases dw (2*n) (s.data.toList.drop p1) <;> simp [Res.map]⟩⟩,ho1⟩);rw [←hN] at hm1 hm2;generalize dw (2*n) (s.data.toList.drop p1)=R at HG HI0;clear hg hr1 hp1 ho1 HU hN;go_wp2_with fail
      go_loopw [5,12] (fun vo vi wr=>∃(j:Nat) (A:Option Addr) (c:Nat),vo=.slice A j c∧vi=.int .u32 j∧j≤N∧Hid (QR w g s R N j A c wr)) (fun vo _ _=>N - Je vo)
      case atStart=>exact ⟨0,none,0,rfl,rfl,Nat.zero_le _,HI0⟩
      case round =>
        obtain ⟨j,A,c,rfl,rfl,hj,HI⟩:=hrel;obtain ⟨ls,hls,hown,hst⟩:=HI.out.st;have hgb:=HI.out.gb
        by_cases hjN:j<N
        · have hjj:(j:Int)<(N:Int):=by omega
          have hj1:((j:Int)+1) % 4294967296=((j+1:Nat):Int):=by omega
          have hj2:IntKind.u32.wrap ((j:Int)+1)=((j+1:Nat):Int):=by
            simp only [IntKind.wrap,IntKind.bits,IntKind.signed];simp;omega
          have hNj:N - j=(N - (j+1))+1:=by omega
          rcases hst with ⟨p',hr,hp',hR⟩ | ⟨p',x,hr,hx0,hR⟩
          · rw [hNj] at hR
            have HT:=hide (HTx.out wr p' hr hp');have HR:=hide hR;have HO:=hide (And.intro hown (And.intro hr (And.intro hgb hls)));clear hR hown hr hgb hls HI;go_wp2_with fail;refine HT.out.mono ?_;rintro e w2 (⟨a,p2,hg2,rfl,hr2,hp2,ho2⟩ | ⟨x,hg2,hx2,rfl,hr2,ho2⟩)
            · have Hg2:=hide hg2
              clear hg2 HT;have hown2:=HO.out.1.kept ho2 (.inr (aS HO.out.1 HO.out.2.1 (by decide)));have hG2:=au HO.out.2.2.1 ho2;have hz2:=hG2.size;clear ho2
              go_wp2_with (first
                | (at_builtin;refine aA _ rfl (.tmp 14) (.tmp 17) _ rfl w.heap.size 9 iI (.string ⟨#[]⟩) 1 16 Tryz.underlying22 hiI hI0 hI1 hI2 rfl (by decide) (.slice A j c) j _ rfl (hown2.alloc _) _ (some ⟨_,0,none⟩) 1 1 [.string (bs a)] rfl (dx (Blk.new _ _ _) rfl) (by simp [Value.oneCell']) (by unfold maxLen;omega) (by omega) (by simp only [World.size_alloc];omega) ?_;intro v6 w6 hown6 hgr6 hor6;obtain ⟨A6,c6,rfl⟩:=di hown6;
                   have hG6:=uj (gu hG2 (.cells #[.string (bs a)] 9)) hgr6 (fun i e=>(hown2.lt i e).1);
                   have hr6:=Blk.grown (Blk.alloc hr2 (.cells #[.string (bs a)] 9)) hgr6 (fun e=>aS hown2 hr2 (by decide) e.symm))
                | fail)
              refine ⟨⟨j+1,A6,c6,by first | rfl | (simp;done),by first | rfl | go_num | (simp;done),by omega,hide ⟨⟨ls++[a],by rw [List.length_append,HO.out.2.2.2];rfl,by rw [List.map_append,List.map_append];exact hown6,.inl ⟨p2,hr6,hp2,OD HR.out Hg2.out⟩⟩,hG6⟩⟩,by simp [Je];omega⟩
            · have Hg2:=hide (And.intro hg2 hx2)
              clear hg2 hx2 HT;have hown2:=HO.out.1.kept ho2 (.inr (aS HO.out.1 HO.out.2.1 (by decide)));have hG2:=au HO.out.2.2.1 ho2;have hz2:=hG2.size;clear ho2
              go_wp2_with (first
                | (at_builtin;refine aA _ rfl (.tmp 14) (.tmp 17) _ rfl w.heap.size 9 iI (.string ⟨#[]⟩) 1 16 Tryz.underlying22 hiI hI0 hI1 hI2 rfl (by decide) (.slice A j c) j _ rfl (hown2.alloc _) _ (some ⟨_,0,none⟩) 1 1 [.string (⟨#[]⟩)] rfl (dx (Blk.new _ _ _) rfl) (by simp [Value.oneCell']) (by unfold maxLen;omega) (by omega) (by simp only [World.size_alloc];omega) ?_;intro v6 w6 hown6 hgr6 hor6;obtain ⟨A6,c6,rfl⟩:=di hown6;
                   have hG6:=uj (gu hG2 (.cells #[.string (⟨#[]⟩)] 9)) hgr6 (fun i e=>(hown2.lt i e).1);
                   have hr6:=Blk.grown (Blk.alloc hr2 (.cells #[.string (⟨#[]⟩)] 9)) hgr6 (fun e=>aS hown2 hr2 (by decide) e.symm))
                | fail)
              refine ⟨⟨j+1,A6,c6,by first | rfl | (simp;done),by first | rfl | go_num | (simp;done),by omega,hide ⟨⟨ls++[[]],by rw [List.length_append,HO.out.2.2.2];rfl,by rw [List.map_append,List.map_append];exact hown6,.inr ⟨p',x,hr6,Hg2.out.2,R4 HR.out Hg2.out.1⟩⟩,hG6⟩⟩,by simp [Je];omega⟩
          · have hx1:((x:Int) == 0)=false:=by rw [beq_eq_false_iff_ne];omega
            have HT:=hide (HTe.out wr p' x hr hx1);have HR:=hide (And.intro hR hx0);have HO:=hide (And.intro hown (And.intro hr (And.intro hgb hls)));clear hR hown hr hgb hls HI hx0;go_wp2_with fail;refine HT.out.mono ?_;rintro e w2 ⟨rfl,hr2,ho2⟩;have hown2:=HO.out.1.kept ho2 (.inr (aS HO.out.1 HO.out.2.1 (by decide)));have hG2:=au HO.out.2.2.1 ho2;have hz2:=hG2.size;clear ho2
            go_wp2_with (first
              | (at_builtin;refine aA _ rfl (.tmp 14) (.tmp 17) _ rfl w.heap.size 9 iI (.string ⟨#[]⟩) 1 16 Tryz.underlying22 hiI hI0 hI1 hI2 rfl (by decide) (.slice A j c) j _ rfl (hown2.alloc _) _ (some ⟨_,0,none⟩) 1 1 [.string (⟨#[]⟩)] rfl (dx (Blk.new _ _ _) rfl) (by simp [Value.oneCell']) (by unfold maxLen;omega) (by omega) (by simp only [World.size_alloc];omega) ?_;intro v6 w6 hown6 hgr6 hor6;obtain ⟨A6,c6,rfl⟩:=di hown6;
                 have hG6:=uj (gu hG2 (.cells #[.string (⟨#[]⟩)] 9)) hgr6 (fun i e=>(hown2.lt i e).1);
                 have hr6:=Blk.grown (Blk.alloc hr2 (.cells #[.string (⟨#[]⟩)] 9)) hgr6 (fun e=>aS hown2 hr2 (by decide) e.symm))
              | fail)
            refine ⟨⟨j+1,A6,c6,by first | rfl | (simp;done),by first | rfl | go_num | (simp;done),by omega,hide ⟨⟨ls++[[]],by rw [List.length_append,HO.out.2.2.2];rfl,by rw [List.map_append,List.map_append];exact hown6,.inr ⟨p',x,hr6,HR.out.2,HR.out.1⟩⟩,hG6⟩⟩,by simp [Je];omega⟩
        · have hjN2:j=N:=by omega
          subst hjN2;rcases hst with ⟨p',hr,hp',hR⟩ | ⟨p',x,hr,hx0,hR⟩
          · have HF:=hide (show jQ (s.data.toList.drop p)=.ok ls (s.data.toList.drop p') from by rw [HG.out,hR,Nat.sub_self];simp [dw,Res.map])
            have HO:=hide (And.intro (pu hown hls.symm) hgb);clear hR hown hgb hls HI;go_wp2_with fail;refine (HE.out _ _ _ hr).mono ?_;rintro e w2 ⟨rfl,rfl⟩;go_wp2_with fail;go_ret2;exact .inl ⟨ls,_,p',HF.out,rfl,HO.out.1,hr,hp',HO.out.2⟩
          · have HF:=hide (show jQ (s.data.toList.drop p)=.no x from by rw [HG.out,hR])
            have HO:=hide (And.intro hgb hx0);clear hR hown hgb hls HI hx0;go_wp2_with fail;refine (HE.out _ _ _ hr).mono ?_;rintro e w2 ⟨rfl,rfl⟩;go_wp2_with fail;go_ret2;exact .inr ⟨x,_,_,_,p',x,HF.out,HO.out.2,rfl,hr,.inr rfl,HO.out.1⟩
  · have HF:=hide (show jQ (s.data.toList.drop p)=.no x from M6 hg)
    have Hx:=hide hx0;clear hg hx0 HU;go_wp2_with fail
    go_loopw [5,12] (fun vo vi wr=>wr=w1∧vo=.slice none 0 0∧vi=.int .u32 0) (fun vo _ _=>0)
    case atStart=>exact ⟨rfl,rfl,rfl⟩
    case round =>
      obtain ⟨rfl,rfl,rfl⟩:=hrel;go_wp2_with fail;refine (HE.out _ _ _ hr1).mono ?_;rintro e w2 ⟨rfl,rfl⟩;go_wp2_with fail;go_ret2;exact .inr ⟨x,none,0,0,p,x,HF.out,Hx.out,rfl,hr1,.inr rfl,ho1⟩

theorem Ob (hM:jq w) (h:Rdr w g s p 0) (hs:s.size≤1000000) (hp:p≤s.size):Calls Tryz.prog 92 #[.pointer (some ⟨g,0,none⟩),.int .u8 101] w (jb 101 w g s p):=by
 have hlt:=Blk.lt h
 obtain ⟨W0,hW0⟩:∃W0,W0=(w.alloc (.cells #[.int .u8 0,.int .i64 0,.string ⟨#[]⟩,.slice none 0 0] 60)).alloc (.cells #[.int .u8 101,.int .i64 0,.string ⟨#[]⟩,.slice none 0 0] 60):=⟨_,rfl⟩
 have hb0:Below w.heap.size w W0:=by rw [hW0];exact aa
 have hz0:W0.heap.size=w.heap.size+2:=by rw [hW0];simp
 have hR0:Blk W0 w.heap.size 60 #[.int .u8 0,.int .i64 0,.string ⟨#[]⟩,.slice none 0 0]:=by rw [hW0];exact (Blk.new w _ _).alloc _
 have hX0:Blk W0 (w.heap.size+1) 60 #[.int .u8 101,.int .i64 0,.string ⟨#[]⟩,.slice none 0 0]:=by rw [hW0];simpa using Blk.new (w.alloc (.cells #[.int .u8 0,.int .i64 0,.string ⟨#[]⟩,.slice none 0 0] 60)) 60 #[.int .u8 101,.int .i64 0,.string ⟨#[]⟩,.slice none 0 0]
 have hr0:Rdr W0 g s p 0:=h.below hb0;have hM0:jq W0:=hM.below hb0;have HE:=hide (fun (W:World) (p':Nat) (x:Int) (hW:Rdr W g s p' x)=>bi hW);have HC:=hide (IL hr0 hs hp);have HG:=hide (zJ (k:=101) (s.data.toList.drop p) rfl);have ng0:g≠w.heap.size:=by omega
 have ng1:g≠w.heap.size+1:=by omega
 go_enter Tryz.func92,Tryz.ntmps92;go_upto_region 2 with fail;rw [←hW0];clear hW0;go_wp2_with fail;refine HC.out.mono ?_;rintro e w2 (⟨ls,v,p',hg,rfl,hN1,hr1,hp1,ho1⟩ | ⟨x,A,n,c,p',y,hg,hx0,rfl,hr1,hy,ho1⟩)
 ·obtain ⟨A,c,rfl,hc,hSl⟩:=hN1
  have hN1:bG W0.heap.size w2 (.slice A ls.length c) ls:=⟨A,c,rfl,hc,hSl⟩
  have hz9:w.heap.size≤W0.heap.size:=hb0.size;have HGO:=hide (show dR 101 (s.data.toList.drop p)=.ok ⟨101,0,[],ls⟩ (s.data.toList.drop p') from by rw [HG.out,hg];rfl);clear hg HG hSl hc;have hX1:=hX0.grown ho1 (fun e=>ng1 (Option.some.inj e).symm);have hR1:=hR0.grown ho1 (fun e=>ng0 (Option.some.inj e).symm);have hG1:w.grownBy w2 (some g):=au (ai hb0 _) ho1;clear ho1 HC hM0 hr0 hM h;have k1:=hX1.cell 3;have f1:=hX1.frozen 3;simp only [List.getElem?_toArray,List.getElem?_cons_zero,List.getElem?_cons_succ] at k1;have hX2:=hX1.set_ 3 (.slice A ls.length c);have hR2:=hR1.far (p:=⟨w.heap.size+1,3,none⟩) (by simp) (.slice A ls.length c);have hr2:Rdr (w2.setCell ⟨w.heap.size+1,3,none⟩ (.slice A ls.length c)) g s p' 0:=Blk.far hr1 (p:=⟨w.heap.size+1,3,none⟩) ng1 (.slice A ls.length c);have hG2:w.grownBy (w2.setCell ⟨w.heap.size+1,3,none⟩ (.slice A ls.length c)) (some g):=ag hG1 (.inr (by simp)) _;have hN2:=hN1.set_ (p:=⟨w.heap.size+1,3,none⟩) (by show w.heap.size+1<_;omega) (.slice A ls.length c);go_wp2_with fail;refine (HE.out _ _ _ hr2).mono ?_;rintro e w3 ⟨rfl,rfl⟩;go_upto_region 19 with fail;generalize w2.setCell ⟨w.heap.size+1,3,none⟩ (.slice A ls.length c)=w5 at hX2 hR2 hr2 hG2 hN2 ⊢;have x0:=hX2.cell 0;have x1:=hX2.cell 1;have x2:=hX2.cell 2;have x3:=hX2.cell 3;have r0:=hR2.cell 0;have r1:=hR2.cell 1;have r2:=hR2.cell 2;have r3:=hR2.cell 3;have t0:=hR2.frozen 0;have t1:=hR2.frozen 1;have t2:=hR2.frozen 2;have t3:=hR2.frozen 3;simp at x0 x1 x2 x3 r0 r1 r2 r3;have hF:=mP hR2 (.int .u8 101) (.int .i64 0) (.string ⟨#[]⟩) (.slice A ls.length c)
  have hGF:=bX hG2 (Nat.le_refl w.heap.size) (.int .u8 101) (.int .i64 0) (.string ⟨#[]⟩) (.slice A ls.length c);have hrF:=dA hr2 ng0 (.int .u8 101) (.int .i64 0) (.string ⟨#[]⟩) (.slice A ls.length c);have hNF:=(((hN2.set_ (p:=⟨w.heap.size,0,none⟩) (by show w.heap.size<_;omega) (.int .u8 101)).set_ (p:=⟨w.heap.size,1,none⟩) (by show w.heap.size<_;omega) (.int .i64 0)).set_ (p:=⟨w.heap.size,2,none⟩) (by show w.heap.size<_;omega) (.string ⟨#[]⟩)).set_ (p:=⟨w.heap.size,3,none⟩) (by show w.heap.size<_;omega) (.slice A ls.length c);clear k1 f1 hX1 hR1 hX2 hR2 hr1 hr2 hG1 hG2 HE hX0 hR0 hb0 hz0;go_wp2_with fail;generalize (((w5.setCell ⟨w.heap.size,0,none⟩ (.int .u8 101)).setCell ⟨w.heap.size,1,none⟩ (.int .i64 0)).setCell ⟨w.heap.size,2,none⟩ (.string ⟨#[]⟩)).setCell ⟨w.heap.size,3,none⟩ (.slice A ls.length c)=wF at hF hGF hrF hNF ⊢;have q0:=hF.cell 0;have q1:=hF.cell 1;have q2:=hF.cell 2;have q3:=hF.cell 3;simp at q0 q1 q2 q3;have HF:=hide (show jb 101 w g s p (.returned (.tuple #[.agg #[.int .u8 101,.int .i64 0,.string ⟨#[]⟩,.slice A ls.length c],.int .i64 0])) wF from .inl ⟨⟨101,0,[],ls⟩,.slice A ls.length c,p',HGO.out,rfl,hNF.mono (by omega),hrF,hp1,hGF⟩);clear x0 x1 x2 x3 r0 r1 r2 r3 t0 t1 t2 t3 hF hGF hrF hNF;exact bodyPost_ret (v:=.tuple #[.agg #[.int .u8 101,.int .i64 0,.string ⟨#[]⟩,.slice A ls.length c],.int .i64 0]) (by simp [results,Tryz.results92,go_sem,q0,q1,q2,q3]) rfl HF.out
 ·have HGO:=hide (show dR 101 (s.data.toList.drop p)=.no x from by rw [HG.out,hg];rfl)
  have hx1:((x:Int) == 0)=false:=by rw [beq_eq_false_iff_ne];omega
  have hx2:((x:Int) != 0)=true:=by simp [bne,hx1]
  have Hx0:=hide hx0;clear hg HG hx0;have hX1:=hX0.grown ho1 (fun e=>ng1 (Option.some.inj e).symm);have hR1:=hR0.grown ho1 (fun e=>ng0 (Option.some.inj e).symm);have hG1:w.grownBy w2 (some g):=au (ai hb0 _) ho1;clear ho1 HC hM0 hr0 hM h;rcases hy with rfl | rfl
  ·have k1:=hX1.cell 3
   have f1:=hX1.frozen 3;simp only [List.getElem?_toArray,List.getElem?_cons_zero,List.getElem?_cons_succ] at k1;have hX2:=hX1.set_ 3 (.slice A n c);have hR2:=hR1.far (p:=⟨w.heap.size+1,3,none⟩) (by simp) (.slice A n c);have hr2:Rdr (w2.setCell ⟨w.heap.size+1,3,none⟩ (.slice A n c)) g s p' 0:=Blk.far hr1 (p:=⟨w.heap.size+1,3,none⟩) ng1 (.slice A n c);have hG2:w.grownBy (w2.setCell ⟨w.heap.size+1,3,none⟩ (.slice A n c)) (some g):=ag hG1 (.inr (by simp)) _;go_wp2_with fail;refine (HE.out _ _ _ hr2).mono ?_;rintro e w3 ⟨rfl,rfl⟩;go_upto_region 19 with fail;generalize w2.setCell ⟨w.heap.size+1,3,none⟩ (.slice A n c)=w5 at hX2 hR2 hr2 hG2 ⊢;have x0:=hX2.cell 0;have x1:=hX2.cell 1;have x2:=hX2.cell 2;have x3:=hX2.cell 3;have r0:=hR2.cell 0;have r1:=hR2.cell 1;have r2:=hR2.cell 2;have r3:=hR2.cell 3;have t0:=hR2.frozen 0;have t1:=hR2.frozen 1;have t2:=hR2.frozen 2;have t3:=hR2.frozen 3;simp at x0 x1 x2 x3 r0 r1 r2 r3;have hF:=mP hR2 (.int .u8 101) (.int .i64 0) (.string ⟨#[]⟩) (.slice A n c);have hGF:=bX hG2 (Nat.le_refl w.heap.size) (.int .u8 101) (.int .i64 0) (.string ⟨#[]⟩) (.slice A n c);have hrF:=dA hr2 ng0 (.int .u8 101) (.int .i64 0) (.string ⟨#[]⟩) (.slice A n c);clear k1 f1 hX1 hR1 hX2 hR2 hr1 hr2 hG1 hG2 HE hX0 hR0 hb0 hz0;go_wp2_with fail;generalize (((w5.setCell ⟨w.heap.size,0,none⟩ (.int .u8 101)).setCell ⟨w.heap.size,1,none⟩ (.int .i64 0)).setCell ⟨w.heap.size,2,none⟩ (.string ⟨#[]⟩)).setCell ⟨w.heap.size,3,none⟩ (.slice A n c)=wF at hF hGF hrF ⊢;have q0:=hF.cell 0;have q1:=hF.cell 1
   have q2:=hF.cell 2;have q3:=hF.cell 3;simp at q0 q1 q2 q3;have HF:=hide (show jb 101 w g s p (.returned (.tuple #[.agg #[.int .u8 101,.int .i64 0,.string ⟨#[]⟩,.slice A n c],.int .i64 x])) wF from .inr ⟨x,_,_,_,_,_,_,HGO.out,Hx0.out,rfl,hGF⟩);clear x0 x1 x2 x3 r0 r1 r2 r3 t0 t1 t2 t3 hF hGF hrF;exact bodyPost_ret (v:=.tuple #[.agg #[.int .u8 101,.int .i64 0,.string ⟨#[]⟩,.slice A n c],.int .i64 x]) (by simp [results,Tryz.results92,go_sem,q0,q1,q2,q3]) rfl HF.out
  ·have k1:=hX1.cell 3
   have f1:=hX1.frozen 3;simp only [List.getElem?_toArray,List.getElem?_cons_zero,List.getElem?_cons_succ] at k1;have hX2:=hX1.set_ 3 (.slice A n c);have hR2:=hR1.far (p:=⟨w.heap.size+1,3,none⟩) (by simp) (.slice A n c);have hr2:Rdr (w2.setCell ⟨w.heap.size+1,3,none⟩ (.slice A n c)) g s p' x:=Blk.far hr1 (p:=⟨w.heap.size+1,3,none⟩) ng1 (.slice A n c);have hG2:w.grownBy (w2.setCell ⟨w.heap.size+1,3,none⟩ (.slice A n c)) (some g):=ag hG1 (.inr (by simp)) _;go_wp2_with fail;refine (HE.out _ _ _ hr2).mono ?_;rintro e w3 ⟨rfl,rfl⟩;go_wp2_with fail;refine (HE.out _ _ _ hr2).mono ?_;rintro e w4 ⟨rfl,rfl⟩;go_upto_region 19 with fail;generalize w2.setCell ⟨w.heap.size+1,3,none⟩ (.slice A n c)=w5 at hX2 hR2 hr2 hG2 ⊢;have x0:=hX2.cell 0;have x1:=hX2.cell 1;have x2:=hX2.cell 2;have x3:=hX2.cell 3;have r0:=hR2.cell 0;have r1:=hR2.cell 1;have r2:=hR2.cell 2;have r3:=hR2.cell 3;have t0:=hR2.frozen 0;have t1:=hR2.frozen 1;have t2:=hR2.frozen 2;have t3:=hR2.frozen 3;simp at x0 x1 x2 x3 r0 r1 r2 r3;have hF:=mP hR2 (.int .u8 101) (.int .i64 0) (.string ⟨#[]⟩) (.slice A n c);have hGF:=bX hG2 (Nat.le_refl w.heap.size) (.int .u8 101) (.int .i64 0) (.string ⟨#[]⟩) (.slice A n c);have hrF:=dA hr2 ng0 (.int .u8 101) (.int .i64 0) (.string ⟨#[]⟩) (.slice A n c);clear k1 f1 hX1 hR1 hX2 hR2 hr1 hr2 hG1 hG2 HE hX0 hR0 hb0 hz0;go_wp2_with fail;generalize (((w5.setCell ⟨w.heap.size,0,none⟩ (.int .u8 101)).setCell ⟨w.heap.size,1,none⟩ (.int .i64 0)).setCell ⟨w.heap.size,2,none⟩ (.string ⟨#[]⟩)).setCell ⟨w.heap.size,3,none⟩ (.slice A n c)=wF at hF hGF hrF ⊢
   have q0:=hF.cell 0;have q1:=hF.cell 1;have q2:=hF.cell 2;have q3:=hF.cell 3;simp at q0 q1 q2 q3;have HF:=hide (show jb 101 w g s p (.returned (.tuple #[.agg #[.int .u8 101,.int .i64 0,.string ⟨#[]⟩,.slice A n c],.int .i64 x])) wF from .inr ⟨x,_,_,_,_,_,_,HGO.out,Hx0.out,rfl,hGF⟩);clear x0 x1 x2 x3 r0 r1 r2 r3 t0 t1 t2 t3 hF hGF hrF;exact bodyPost_ret (v:=.tuple #[.agg #[.int .u8 101,.int .i64 0,.string ⟨#[]⟩,.slice A n c],.int .i64 x]) (by simp [results,Tryz.results92,go_sem,q0,q1,q2,q3]) rfl HF.out

theorem Ol (k:Nat) (hM:jq w) (h:Rdr w g s p 0) (hs:s.size≤1000000) (hp:p≤s.size):Calls Tryz.prog 92 #[.pointer (some ⟨g,0,none⟩),.int .u8 k] w (jb k w g s p):=by
 by_cases k0:k=98
 ·subst k0;exact Qh h hs hp
 by_cases k1:k=117
 ·subst k1;exact Oc h hs hp
 by_cases k2:k=109
 ·subst k2;exact ME h hs hp
 by_cases k3:k=110
 ·subst k3;exact N7 hM h hs hp
 by_cases k4:k=99
 ·subst k4;exact Pk h hs hp
 by_cases k5:k=101
 ·subst k5;exact Ob hM h hs hp
 exact G9 k k0 k1 k2 k3 k4 k5 h hs hp
end
structure Uw (w:World) (S:List UInt8) (fr i:Nat) (A:Option Addr) (n c:Nat) (wr:World):Prop where
 bel:Below w.heap.size w wr
 st:∃ls:List (List UInt8),ls.length=n∧wr.ownsRow w.heap.size 9 1 (.slice A n c) n ((ls.map bs).map Value.string)∧n≤i ∧
  (i≤S.length→fr≤i∧aX S=ls++aX (S.drop fr)∧∀c∈(S.drop fr).take (i - fr),c≠44)∧(S.length<i→aX S=ls)
theorem Fe {P:Program} {Q:Exit→Act→World→Prop} {ops:Array Oper} {o:Oper} {a:Act} {w:World} {u:Value} {f:FuncId} {K:Act→World→Prop} {F:Prop} (hgd:o.guard=none)
  (hr:(execOp a.eval o).run P w=.ok (.enter f #[u]) w) {post:Ending→World→Prop} (hc:Calls P f #[u] w post) (h:∀e w',post e w'→∃r,e=.returned r∧K (a.put o.dst r) w'):if Region.wanted o (yielded ops a.tmps)=true then Oper.wp P o a w K Q else F:=by
 rw [if_pos (by simp [Region.wanted,hgd])];unfold Oper.wp;rw [hr,Oper.upon_enter];refine hc.mono fun e w' hp=>?_
 obtain ⟨r,rfl,hk⟩:=h e w' hp;exact hk
structure Uz (w:World) (g:Nat) (R:Res (List (List UInt8))) (N j:Nat) (A:Option Addr) (c:Nat) (wr:World):Prop where
 gb:w.grownBy wr (some g)
 xb:Blk wr (w.heap.size+1) 60 #[.int .u8 101,.int .i64 0,.string ⟨#[]⟩,.slice A j c]
 rb:Blk wr w.heap.size 60 #[.int .u8 0,.int .i64 0,.string ⟨#[]⟩,.slice none 0 0]
 sz:w.heap.size+2≤wr.heap.size
 st:∃ls:List (List UInt8),ls.length=j∧wr.ownsRow (w.heap.size+2) 9 1 (.slice A j c) j ((ls.map bs).map Value.string) ∧
  ((∃r',Rd3 wr g r' 0∧r'.length≤1000000∧R=(dw (N - j) r').map (ls++·))∨(∃r',∃x:Nat,Rd3 wr g r' x∧x≠0∧R=.no x))
end Go.Proofs.YtnhekaepgpbijaaGreatDoor
