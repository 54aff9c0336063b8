/- Several of my texts in one: GetW, GetX, RSp. -/
import Derived.Test.YtnhekaepgpbijaaGreatDoorKAli
import Derived.Test.YtnhekaepgpbijaaGreatDoorKCfDG
import Derived.Test.YtnhekaepgpbijaaGreatDoorKCardCG
import Derived.Test.YtnhekaepgpbijaaGreatDoorKChnG
set_option linter.unusedVariables false
set_option linter.unusedSimpArgs false
set_option maxHeartbeats 40000000
set_option maxRecDepth 100000
namespace Go.Proofs.YtnhekaepgpbijaaGreatDoor
open Go.Proofs.Tryz Go.RowKit Go.ChangeShapes Go.WideShapes Go.Sort
variable {a w':World} {i lo n x:Nat} {S q r:List UInt8} {v:Value} {ls:List (List UInt8)} {R:Res (List (List UInt8))}
theorem kH.grown {w:World} {g:Nat} {s:ByteArray} {p:Nat} {x:Int} (h:kH w) (u:Rdr w g s p x) (r:w.grownBy w' (some g)):kH w':=by
 obtain ⟨m,j⟩:=h;refine ⟨m,?_⟩
 by_cases q:g=4
 ·have o:w.cell? ⟨g,0,none⟩=some (.string s):=Blk.cell u 0
  rw [q,j] at o;cases o
 ·exact (World.cell?_of_block (a:=⟨4,0,none⟩) (r.block _ (World.block_lt_of_cell? w _ j) (fun e=>q (Y9 e).symm))).trans j
theorem gP {w:World} {r:Nat} {t:TypeId} {j o q u:Value} (h:Blk w r t #[j,o,q,u]) (v0 v1 v2 v3:Value) :
  Blk ((((w.setCell ⟨r,0,none⟩ v0).setCell ⟨r,1,none⟩ v1).setCell ⟨r,2,none⟩ v2).setCell ⟨r,3,none⟩ v3) r t #[v0,v1,v2,v3]:=by
 have:=(((h.set_ 0 v0).set_ 1 v1).set_ 2 v2).set_ 3 v3;simpa using this
theorem aJ {w:World} {g r:Nat} (h:a.grownBy w (some g)) (j:a.heap.size<=r) (v0 v1 v2 v3:Value) :
  a.grownBy ((((w.setCell ⟨r,0,none⟩ v0).setCell ⟨r,1,none⟩ v1).setCell ⟨r,2,none⟩ v2).setCell ⟨r,3,none⟩ v3) (some g) :=
 ah (ah (ah (ah h (.inr j) _) (.inr j) _) (.inr j) _) (.inr j) _
theorem dM {w:World} {g r:Nat} {s:ByteArray} {p:Nat} {x:Int} (h:Rdr w g s p x) (j:g≠r) (v0 v1 v2 v3:Value) :
  Rdr ((((w.setCell ⟨r,0,none⟩ v0).setCell ⟨r,1,none⟩ v1).setCell ⟨r,2,none⟩ v2).setCell ⟨r,3,none⟩ v3) g s p x :=
 Blk.far (Blk.far (Blk.far (Blk.far h (p:=⟨r,0,none⟩) j v0) (p:=⟨r,1,none⟩) j v1) (p:=⟨r,2,none⟩) j v2) (p:=⟨r,3,none⟩) j v3
theorem bN.txc (h:bN lo w' v ls):Txc w' v ls:=by
 obtain ⟨A,c,rfl,o,j⟩:=h;exact ⟨⟨A,c,by rw [Yd],by rw [Yd];exact j.mono (Yb _)⟩,A,c,rfl,o⟩
theorem bN.keep {w:World} {g:Nat} (h:bN lo w v ls) (r:w.grownBy w' (some g)) (J:g<lo):bN lo w' v ls:=by
 obtain ⟨A,c,rfl,F,q⟩:=h;refine ⟨A,c,rfl,F,q.1,fun G=>?_⟩;obtain ⟨z,e,C,o,D⟩:=q.2 G;exact ⟨z,e,C,Yi o r.size,fun j u I=>(World.cell?_of_block (r.block _ (by rw [ax];exact o) (fun B=>by have:=Y9 B;rw [ax] at this;omega))).trans (D j u I)⟩
def jY (k:Nat) (w:World) (g:Nat) (s:ByteArray) (p:Nat) (e:Ending) (w':World):Prop :=
 (∃x lv p',dx k (s.data.toList.drop p)=.ok x (s.data.toList.drop p')/\e=.returned (.tuple #[fD x lv,.int .i64 0])/\bN w.heap.size w' lv x.l/\Rdr w' g s p' 0/\p'<=s.size/\w.grownBy w' (some g)) \/
 (∃x:Nat,∃(a b:Int) (c:ByteArray) (A:Option Addr) (m d:Nat),dx k (s.data.toList.drop p)=.no x/\x≠0/\e=.returned (.tuple #[.agg #[.int .u8 a,.int .i64 b,.string c,.slice A m d],.int .i64 x])/\w.grownBy w' (some g))
theorem De {j:List UInt8} {a:Int} (h:nI r=.ok a j):a=0\/a=1:=by
 cases r with
 | nil=>cases h
 | cons c q =>
  rw [iL] at h
  split at h
  ·injection h with h1 _
   omega
  ·cases h
section
variable {w : World} {g p : Nat} {s : ByteArray}
theorem rQ (b:Bool) (w:World):Calls prog 155 #[.bool b] w (fun e w'=>e=.returned (.int .i64 (if b=true then 1 else 0))/\w'=w):=by
 cases b with
 | true =>
  go_enter func155,ntmps155;go_wp2;go_ret;exact ⟨rfl,rfl⟩
 | false =>
  go_enter func155,ntmps155;go_wp2;go_ret;exact ⟨rfl,rfl⟩

theorem Oh (h:Rdr w g s p 0) (hs:s.size<=1000000) (hp:p<=s.size):Calls prog 92 #[.pointer (some ⟨g,0,none⟩),.int .u8 109] w (jY 109 w g s p):=by
 have ad:=Blk.lt h
 obtain ⟨N,hW0⟩:∃N,N=(w.alloc (.cells #[.int .u8 0,.int .i64 0,.string ⟨#[]⟩,.slice none 0 0] 60)).alloc (.cells #[.int .u8 109,.int .i64 0,.string ⟨#[]⟩,.slice none 0 0] 60):=⟨_,rfl⟩
 have F:Below w.heap.size w N:=Zg;have R:N.heap.size=w.heap.size+2:=ZO;have I:Blk N w.heap.size 60 #[.int .u8 0,.int .i64 0,.string ⟨#[]⟩,.slice none 0 0]:=Zc;have J:Blk N (w.heap.size+1) 60 #[.int .u8 109,.int .i64 0,.string ⟨#[]⟩,.slice none 0 0]:=Zw;have P:Rdr N g s p 0:=h.below F;have HC:=hide (CL P hs hp);have O:=hide (fun (W:World) (p':Nat) (x:Int) (hW:Rdr W g s p' x)=>bE hW);have HG:=hide (vG (s.data.toList.drop p) rfl);have K:g≠w.heap.size:=Z0;have L:g≠w.heap.size+1:=Z0;clear h P;go_enter func92,ntmps92;go_upto_region 2 with fail;rw [<-hW0];clear hW0;go_wp2_with fail;refine HC.out.mono ?_;rintro e w1 (⟨a,p',hg,rfl,G,ac,u⟩ | ⟨x,hg,Q,rfl,G,u⟩)
 ·have r:=J.grown u (fun e=>L (Y9 e).symm)
  have D:=I.grown u (fun e=>K (Y9 e).symm);have C:w.grownBy w1 (some g):=aj (ag F _) u;have Hg:=hide hg;clear hg u;have S:=r.cell 2;have f1:=r.frozen 2;simp only [Jx,Q1,Q2] at S;have o:=r.set_ 2 (.string (bs a));have j:=D.far (p:=⟨w.heap.size+1,2,none⟩) Z3 (.string (bs a));have q:Rdr (w1.setCell ⟨w.heap.size+1,2,none⟩ (.string (bs a))) g s p' 0:=Blk.far G (p:=⟨w.heap.size+1,2,none⟩) L (.string (bs a));have z:w.grownBy (w1.setCell ⟨w.heap.size+1,2,none⟩ (.string (bs a))) (some g):=ah C (.inr Z3) _;go_wp2_with (first  | fail);refine (O.out _ _ _ q).mono ?_;rintro e w2 ⟨rfl,rfl⟩;go_upto_region 19 with fail;generalize w1.setCell ⟨w.heap.size+1,2,none⟩ (.string (bs a))=w5 at o j q z ⊢;have Y:=o.cell 0;have x1:=o.cell 1;have x2:=o.cell 2;have Z:=o.cell 3;have T:=j.cell 0;have U:=j.cell 1;have V:=j.cell 2;have X:=j.cell 3;have t0:=j.frozen 0;have t1:=j.frozen 1;have t2:=j.frozen 2;have t3:=j.frozen 3;simp at Y x1 x2 Z T U V X;have hF:=gP j (.int .u8 109) (.int .i64 0) (.string (bs a)) (.slice none 0 0);have A:=aJ z (Y2 w.heap.size) (.int .u8 109) (.int .i64 0) (.string (bs a)) (.slice none 0 0);have B:=dM q K (.int .u8 109) (.int .i64 0) (.string (bs a)) (.slice none 0 0);clear S f1 r D o j G q C z HC O J I F R;go_wp2_with fail;generalize (((w5.setCell ⟨w.heap.size,0,none⟩ (.int .u8 109)).setCell ⟨w.heap.size,1,none⟩ (.int .i64 0)).setCell ⟨w.heap.size,2,none⟩ (.string (bs a))).setCell ⟨w.heap.size,3,none⟩ (.slice none 0 0)=wF at hF A B ⊢;have q0:=hF.cell 0;have q1:=hF.cell 1;have q2:=hF.cell 2
  have q3:=hF.cell 3;simp at q0 q1 q2 q3;have HF:=hide (show jY 109 w g s p (.returned (.tuple #[.agg #[.int .u8 109,.int .i64 0,.string (bs a),.slice none 0 0],.int .i64 0])) wF from .inl ⟨⟨109,0,a,[]⟩,.slice none 0 0,p',Zq,rfl,dO _ _ _,B,ac,A⟩);clear Y x1 x2 Z T U V X t0 t1 t2 t3 hF A B HG Hg;exact bodyPost_ret (v:=.tuple #[.agg #[.int .u8 109,.int .i64 0,.string (bs a),.slice none 0 0],.int .i64 0]) Zf rfl HF.out
 ·have r:=J.grown u (fun e=>L (Y9 e).symm)
  have D:=I.grown u (fun e=>K (Y9 e).symm);have C:w.grownBy w1 (some g):=aj (ag F _) u;have aa:=hide (show dx 109 (s.data.toList.drop p)=.no x from YY);have hx1:((x:Int) == 0)=false:=Z6;have af:((x:Int) != 0)=true:=YU;have ab:=hide Q;clear hg u HG Q;have S:=r.cell 2;have f1:=r.frozen 2;simp only [Jx,Q1,Q2] at S;have o:=r.set_ 2 (.string ⟨#[]⟩);have j:=D.far (p:=⟨w.heap.size+1,2,none⟩) Z3 (.string ⟨#[]⟩);have q:Rdr (w1.setCell ⟨w.heap.size+1,2,none⟩ (.string ⟨#[]⟩)) g s p x:=Blk.far G (p:=⟨w.heap.size+1,2,none⟩) L (.string ⟨#[]⟩);have z:w.grownBy (w1.setCell ⟨w.heap.size+1,2,none⟩ (.string ⟨#[]⟩)) (some g):=ah C (.inr Z3) _;go_wp2_with (first  | fail);refine (O.out _ _ _ q).mono ?_;rintro e w2 ⟨rfl,rfl⟩;go_wp2_with fail;refine (O.out _ _ _ q).mono ?_;rintro e w3 ⟨rfl,rfl⟩;go_upto_region 19 with fail;generalize w1.setCell ⟨w.heap.size+1,2,none⟩ (.string ⟨#[]⟩)=w5 at o j q z ⊢;have Y:=o.cell 0;have x1:=o.cell 1;have x2:=o.cell 2;have Z:=o.cell 3;have T:=j.cell 0;have U:=j.cell 1;have V:=j.cell 2;have X:=j.cell 3;have t0:=j.frozen 0;have t1:=j.frozen 1;have t2:=j.frozen 2;have t3:=j.frozen 3;simp at Y x1 x2 Z T U V X;have hF:=gP j (.int .u8 109) (.int .i64 0) (.string ⟨#[]⟩) (.slice none 0 0);have A:=aJ z (Y2 w.heap.size) (.int .u8 109) (.int .i64 0) (.string ⟨#[]⟩) (.slice none 0 0);have B:=dM q K (.int .u8 109) (.int .i64 0) (.string ⟨#[]⟩) (.slice none 0 0);clear S f1 r D o j G q C z HC O J I F R;go_wp2_with fail;generalize (((w5.setCell ⟨w.heap.size,0,none⟩ (.int .u8 109)).setCell ⟨w.heap.size,1,none⟩ (.int .i64 0)).setCell ⟨w.heap.size,2,none⟩ (.string ⟨#[]⟩)).setCell ⟨w.heap.size,3,none⟩ (.slice none 0 0)=wF at hF A B ⊢
  have q0:=hF.cell 0;have q1:=hF.cell 1;have q2:=hF.cell 2;have q3:=hF.cell 3;simp at q0 q1 q2 q3;have HF:=hide (show jY 109 w g s p (.returned (.tuple #[.agg #[.int .u8 109,.int .i64 0,.string ⟨#[]⟩,.slice none 0 0],.int .i64 x])) wF from .inr ⟨x,_,_,_,_,_,_,aa.out,ab.out,rfl,A⟩);clear Y x1 x2 Z T U V X t0 t1 t2 t3 hF A B;exact bodyPost_ret (v:=.tuple #[.agg #[.int .u8 109,.int .i64 0,.string ⟨#[]⟩,.slice none 0 0],.int .i64 x]) Zf rfl HF.out

theorem Q4 (h:Rdr w g s p 0) (hs:s.size<=1000000) (hp:p<=s.size):Calls prog 92 #[.pointer (some ⟨g,0,none⟩),.int .u8 99] w (jY 99 w g s p):=by
 have ad:=Blk.lt h
 obtain ⟨N,hW0⟩:∃N,N=(w.alloc (.cells #[.int .u8 0,.int .i64 0,.string ⟨#[]⟩,.slice none 0 0] 60)).alloc (.cells #[.int .u8 99,.int .i64 0,.string ⟨#[]⟩,.slice none 0 0] 60):=⟨_,rfl⟩
 have F:Below w.heap.size w N:=Zg;have R:N.heap.size=w.heap.size+2:=ZO;have I:Blk N w.heap.size 60 #[.int .u8 0,.int .i64 0,.string ⟨#[]⟩,.slice none 0 0]:=Zc;have J:Blk N (w.heap.size+1) 60 #[.int .u8 99,.int .i64 0,.string ⟨#[]⟩,.slice none 0 0]:=ZA;have P:Rdr N g s p 0:=h.below F;have HC:=hide (Ca P hs hp);have O:=hide (fun (W:World) (p':Nat) (x:Int) (hW:Rdr W g s p' x)=>bE hW);have HG:=hide (Bn (s.data.toList.drop p) rfl);have K:g≠w.heap.size:=Z0;have L:g≠w.heap.size+1:=Z0;clear h P;go_enter func92,ntmps92;go_upto_region 2 with fail;rw [<-hW0];clear hW0;go_wp2_with fail;refine HC.out.mono ?_;rintro e w1 (⟨a,p',hg,rfl,G,ac,u⟩ | ⟨x,hg,Q,rfl,G,u⟩)
 ·have r:=J.grown u (fun e=>L (Y9 e).symm)
  have D:=I.grown u (fun e=>K (Y9 e).symm);have C:w.grownBy w1 (some g):=aj (ag F _) u;have Hg:=hide hg;clear hg u;have S:=r.cell 2;have f1:=r.frozen 2;simp only [Jx,Q1,Q2] at S;have o:=r.set_ 2 (.string (bs a));have j:=D.far (p:=⟨w.heap.size+1,2,none⟩) Z3 (.string (bs a));have q:Rdr (w1.setCell ⟨w.heap.size+1,2,none⟩ (.string (bs a))) g s p' 0:=Blk.far G (p:=⟨w.heap.size+1,2,none⟩) L (.string (bs a));have z:w.grownBy (w1.setCell ⟨w.heap.size+1,2,none⟩ (.string (bs a))) (some g):=ah C (.inr Z3) _;go_wp2_with (first  | fail);refine (O.out _ _ _ q).mono ?_;rintro e w2 ⟨rfl,rfl⟩;go_upto_region 19 with fail;generalize w1.setCell ⟨w.heap.size+1,2,none⟩ (.string (bs a))=w5 at o j q z ⊢;have Y:=o.cell 0;have x1:=o.cell 1;have x2:=o.cell 2;have Z:=o.cell 3;have T:=j.cell 0;have U:=j.cell 1;have V:=j.cell 2;have X:=j.cell 3;have t0:=j.frozen 0;have t1:=j.frozen 1;have t2:=j.frozen 2;have t3:=j.frozen 3;simp at Y x1 x2 Z T U V X;have hF:=gP j (.int .u8 99) (.int .i64 0) (.string (bs a)) (.slice none 0 0);have A:=aJ z (Y2 w.heap.size) (.int .u8 99) (.int .i64 0) (.string (bs a)) (.slice none 0 0);have B:=dM q K (.int .u8 99) (.int .i64 0) (.string (bs a)) (.slice none 0 0);clear S f1 r D o j G q C z HC O J I F R;go_wp2_with fail;generalize (((w5.setCell ⟨w.heap.size,0,none⟩ (.int .u8 99)).setCell ⟨w.heap.size,1,none⟩ (.int .i64 0)).setCell ⟨w.heap.size,2,none⟩ (.string (bs a))).setCell ⟨w.heap.size,3,none⟩ (.slice none 0 0)=wF at hF A B ⊢;have q0:=hF.cell 0;have q1:=hF.cell 1;have q2:=hF.cell 2
  have q3:=hF.cell 3;simp at q0 q1 q2 q3;have HF:=hide (show jY 99 w g s p (.returned (.tuple #[.agg #[.int .u8 99,.int .i64 0,.string (bs a),.slice none 0 0],.int .i64 0])) wF from .inl ⟨⟨99,0,a,[]⟩,.slice none 0 0,p',Zq,rfl,dO _ _ _,B,ac,A⟩);clear Y x1 x2 Z T U V X t0 t1 t2 t3 hF A B HG Hg;exact bodyPost_ret (v:=.tuple #[.agg #[.int .u8 99,.int .i64 0,.string (bs a),.slice none 0 0],.int .i64 0]) Zf rfl HF.out
 ·have r:=J.grown u (fun e=>L (Y9 e).symm)
  have D:=I.grown u (fun e=>K (Y9 e).symm);have C:w.grownBy w1 (some g):=aj (ag F _) u;have aa:=hide (show dx 99 (s.data.toList.drop p)=.no x from YY);have hx1:((x:Int) == 0)=false:=Z6;have af:((x:Int) != 0)=true:=YU;have ab:=hide Q;clear hg u HG Q;have S:=r.cell 2;have f1:=r.frozen 2;simp only [Jx,Q1,Q2] at S;have o:=r.set_ 2 (.string ⟨#[]⟩);have j:=D.far (p:=⟨w.heap.size+1,2,none⟩) Z3 (.string ⟨#[]⟩);have q:Rdr (w1.setCell ⟨w.heap.size+1,2,none⟩ (.string ⟨#[]⟩)) g s p x:=Blk.far G (p:=⟨w.heap.size+1,2,none⟩) L (.string ⟨#[]⟩);have z:w.grownBy (w1.setCell ⟨w.heap.size+1,2,none⟩ (.string ⟨#[]⟩)) (some g):=ah C (.inr Z3) _;go_wp2_with (first  | fail);refine (O.out _ _ _ q).mono ?_;rintro e w2 ⟨rfl,rfl⟩;go_wp2_with fail;refine (O.out _ _ _ q).mono ?_;rintro e w3 ⟨rfl,rfl⟩;go_upto_region 19 with fail;generalize w1.setCell ⟨w.heap.size+1,2,none⟩ (.string ⟨#[]⟩)=w5 at o j q z ⊢;have Y:=o.cell 0;have x1:=o.cell 1;have x2:=o.cell 2;have Z:=o.cell 3;have T:=j.cell 0;have U:=j.cell 1;have V:=j.cell 2;have X:=j.cell 3;have t0:=j.frozen 0;have t1:=j.frozen 1;have t2:=j.frozen 2;have t3:=j.frozen 3;simp at Y x1 x2 Z T U V X;have hF:=gP j (.int .u8 99) (.int .i64 0) (.string ⟨#[]⟩) (.slice none 0 0);have A:=aJ z (Y2 w.heap.size) (.int .u8 99) (.int .i64 0) (.string ⟨#[]⟩) (.slice none 0 0);have B:=dM q K (.int .u8 99) (.int .i64 0) (.string ⟨#[]⟩) (.slice none 0 0);clear S f1 r D o j G q C z HC O J I F R;go_wp2_with fail;generalize (((w5.setCell ⟨w.heap.size,0,none⟩ (.int .u8 99)).setCell ⟨w.heap.size,1,none⟩ (.int .i64 0)).setCell ⟨w.heap.size,2,none⟩ (.string ⟨#[]⟩)).setCell ⟨w.heap.size,3,none⟩ (.slice none 0 0)=wF at hF A B ⊢
  have q0:=hF.cell 0;have q1:=hF.cell 1;have q2:=hF.cell 2;have q3:=hF.cell 3;simp at q0 q1 q2 q3;have HF:=hide (show jY 99 w g s p (.returned (.tuple #[.agg #[.int .u8 99,.int .i64 0,.string ⟨#[]⟩,.slice none 0 0],.int .i64 x])) wF from .inr ⟨x,_,_,_,_,_,_,aa.out,ab.out,rfl,A⟩);clear Y x1 x2 Z T U V X t0 t1 t2 t3 hF A B;exact bodyPost_ret (v:=.tuple #[.agg #[.int .u8 99,.int .i64 0,.string ⟨#[]⟩,.slice none 0 0],.int .i64 x]) Zf rfl HF.out

theorem JA (k:Nat) (h0:¬ k=98) (h1:¬ k=117) (h2:¬ k=109) (h3:¬ k=110) (h4:¬ k=99) (h5:¬ k=101) (h:Rdr w g s p 0) (hs:s.size<=1000000) (hp:p<=s.size):Calls prog 92 #[.pointer (some ⟨g,0,none⟩),.int .u8 k] w (jY k w g s p):=by
 have ad:=Blk.lt h
 obtain ⟨N,hW0⟩:∃N,N=(w.alloc (.cells #[.int .u8 0,.int .i64 0,.string ⟨#[]⟩,.slice none 0 0] 60)).alloc (.cells #[.int .u8 k,.int .i64 0,.string ⟨#[]⟩,.slice none 0 0] 60):=⟨_,rfl⟩
 have F:Below w.heap.size w N:=Zg;have R:N.heap.size=w.heap.size+2:=ZO;have I:Blk N w.heap.size 60 #[.int .u8 0,.int .i64 0,.string ⟨#[]⟩,.slice none 0 0]:=Zc;have J:Blk N (w.heap.size+1) 60 #[.int .u8 k,.int .i64 0,.string ⟨#[]⟩,.slice none 0 0]:=ZC;have P:Rdr N g s p 0:=h.below F;have HC:=hide (qg P hs hp);have O:=hide (fun (W:World) (p':Nat) (x:Int) (hW:Rdr W g s p' x)=>bE hW);have HG:=hide (oL (s.data.toList.drop p) h0 h1 h2 h3 h4 h5);have n0:(((k:Nat):Int) == 98)=false:=jW h0;have n1:(((k:Nat):Int) == 117)=false:=jW h1;have n2:(((k:Nat):Int) == 109)=false:=jW h2;have n3:(((k:Nat):Int) == 110)=false:=jW h3;have n4:(((k:Nat):Int) == 99)=false:=jW h4;have n5:(((k:Nat):Int) == 101)=false:=jW h5;have K:g≠w.heap.size:=Z0;have L:g≠w.heap.size+1:=Z0;clear h P h0 h1 h2 h3 h4 h5;go_enter func92,ntmps92;go_upto_region 2 with fail;rw [<-hW0];clear hW0;go_wp2_with fail;refine HC.out.mono ?_;rintro e w1 (⟨a,p',hg,rfl,G,ac,u⟩ | ⟨x,hg,Q,rfl,G,u⟩)
 ·have r:=J.grown u (fun e=>L (Y9 e).symm)
  have D:=I.grown u (fun e=>K (Y9 e).symm);have C:w.grownBy w1 (some g):=aj (ag F _) u;have Hg:=hide hg;clear hg u;have S:=r.cell 2;have f1:=r.frozen 2;simp only [Jx,Q1,Q2] at S;have o:=r.set_ 2 (.string (bs a));have j:=D.far (p:=⟨w.heap.size+1,2,none⟩) Z3 (.string (bs a));have q:Rdr (w1.setCell ⟨w.heap.size+1,2,none⟩ (.string (bs a))) g s p' 0:=Blk.far G (p:=⟨w.heap.size+1,2,none⟩) L (.string (bs a));have z:w.grownBy (w1.setCell ⟨w.heap.size+1,2,none⟩ (.string (bs a))) (some g):=ah C (.inr Z3) _;go_wp2_with (first  | fail);refine (O.out _ _ _ q).mono ?_;rintro e w2 ⟨rfl,rfl⟩;go_upto_region 19 with fail;generalize w1.setCell ⟨w.heap.size+1,2,none⟩ (.string (bs a))=w5 at o j q z ⊢;have Y:=o.cell 0;have x1:=o.cell 1;have x2:=o.cell 2;have Z:=o.cell 3;have T:=j.cell 0;have U:=j.cell 1;have V:=j.cell 2;have X:=j.cell 3;have t0:=j.frozen 0;have t1:=j.frozen 1;have t2:=j.frozen 2;have t3:=j.frozen 3;simp at Y x1 x2 Z T U V X;have hF:=gP j (.int .u8 k) (.int .i64 0) (.string (bs a)) (.slice none 0 0);have A:=aJ z (Y2 w.heap.size) (.int .u8 k) (.int .i64 0) (.string (bs a)) (.slice none 0 0);have B:=dM q K (.int .u8 k) (.int .i64 0) (.string (bs a)) (.slice none 0 0);clear S f1 r D o j G q C z HC O J I F R;go_wp2_with fail;generalize (((w5.setCell ⟨w.heap.size,0,none⟩ (.int .u8 k)).setCell ⟨w.heap.size,1,none⟩ (.int .i64 0)).setCell ⟨w.heap.size,2,none⟩ (.string (bs a))).setCell ⟨w.heap.size,3,none⟩ (.slice none 0 0)=wF at hF A B ⊢;have q0:=hF.cell 0;have q1:=hF.cell 1;have q2:=hF.cell 2
  have q3:=hF.cell 3;simp at q0 q1 q2 q3;have HF:=hide (show jY k w g s p (.returned (.tuple #[.agg #[.int .u8 k,.int .i64 0,.string (bs a),.slice none 0 0],.int .i64 0])) wF from .inl ⟨⟨k,0,a,[]⟩,.slice none 0 0,p',Zq,rfl,dO _ _ _,B,ac,A⟩);clear Y x1 x2 Z T U V X t0 t1 t2 t3 hF A B HG Hg;exact bodyPost_ret (v:=.tuple #[.agg #[.int .u8 k,.int .i64 0,.string (bs a),.slice none 0 0],.int .i64 0]) Zf rfl HF.out
 ·have r:=J.grown u (fun e=>L (Y9 e).symm)
  have D:=I.grown u (fun e=>K (Y9 e).symm);have C:w.grownBy w1 (some g):=aj (ag F _) u;have aa:=hide (show dx k (s.data.toList.drop p)=.no x from YY);have hx1:((x:Int) == 0)=false:=Z6;have af:((x:Int) != 0)=true:=YU;have ab:=hide Q;clear hg u HG Q;have S:=r.cell 2;have f1:=r.frozen 2;simp only [Jx,Q1,Q2] at S;have o:=r.set_ 2 (.string ⟨#[]⟩);have j:=D.far (p:=⟨w.heap.size+1,2,none⟩) Z3 (.string ⟨#[]⟩);have q:Rdr (w1.setCell ⟨w.heap.size+1,2,none⟩ (.string ⟨#[]⟩)) g s p x:=Blk.far G (p:=⟨w.heap.size+1,2,none⟩) L (.string ⟨#[]⟩);have z:w.grownBy (w1.setCell ⟨w.heap.size+1,2,none⟩ (.string ⟨#[]⟩)) (some g):=ah C (.inr Z3) _;go_wp2_with (first  | fail);refine (O.out _ _ _ q).mono ?_;rintro e w2 ⟨rfl,rfl⟩;go_wp2_with fail;refine (O.out _ _ _ q).mono ?_;rintro e w3 ⟨rfl,rfl⟩;go_upto_region 19 with fail;generalize w1.setCell ⟨w.heap.size+1,2,none⟩ (.string ⟨#[]⟩)=w5 at o j q z ⊢;have Y:=o.cell 0;have x1:=o.cell 1;have x2:=o.cell 2;have Z:=o.cell 3;have T:=j.cell 0;have U:=j.cell 1;have V:=j.cell 2;have X:=j.cell 3;have t0:=j.frozen 0;have t1:=j.frozen 1;have t2:=j.frozen 2;have t3:=j.frozen 3;simp at Y x1 x2 Z T U V X;have hF:=gP j (.int .u8 k) (.int .i64 0) (.string ⟨#[]⟩) (.slice none 0 0);have A:=aJ z (Y2 w.heap.size) (.int .u8 k) (.int .i64 0) (.string ⟨#[]⟩) (.slice none 0 0);have B:=dM q K (.int .u8 k) (.int .i64 0) (.string ⟨#[]⟩) (.slice none 0 0);clear S f1 r D o j G q C z HC O J I F R;go_wp2_with fail;generalize (((w5.setCell ⟨w.heap.size,0,none⟩ (.int .u8 k)).setCell ⟨w.heap.size,1,none⟩ (.int .i64 0)).setCell ⟨w.heap.size,2,none⟩ (.string ⟨#[]⟩)).setCell ⟨w.heap.size,3,none⟩ (.slice none 0 0)=wF at hF A B ⊢
  have q0:=hF.cell 0;have q1:=hF.cell 1;have q2:=hF.cell 2;have q3:=hF.cell 3;simp at q0 q1 q2 q3;have HF:=hide (show jY k w g s p (.returned (.tuple #[.agg #[.int .u8 k,.int .i64 0,.string ⟨#[]⟩,.slice none 0 0],.int .i64 x])) wF from .inr ⟨x,_,_,_,_,_,_,aa.out,ab.out,rfl,A⟩);clear Y x1 x2 Z T U V X t0 t1 t2 t3 hF A B;exact bodyPost_ret (v:=.tuple #[.agg #[.int .u8 k,.int .i64 0,.string ⟨#[]⟩,.slice none 0 0],.int .i64 x]) Zf rfl HF.out

theorem Qa (h:Rdr w g s p 0) (hs:s.size<=1000000) (hp:p<=s.size):Calls prog 92 #[.pointer (some ⟨g,0,none⟩),.int .u8 117] w (jY 117 w g s p):=by
 have ad:=Blk.lt h
 obtain ⟨N,hW0⟩:∃N,N=(w.alloc (.cells #[.int .u8 0,.int .i64 0,.string ⟨#[]⟩,.slice none 0 0] 60)).alloc (.cells #[.int .u8 117,.int .i64 0,.string ⟨#[]⟩,.slice none 0 0] 60):=⟨_,rfl⟩
 have F:Below w.heap.size w N:=Zg;have R:N.heap.size=w.heap.size+2:=ZO;have I:Blk N w.heap.size 60 #[.int .u8 0,.int .i64 0,.string ⟨#[]⟩,.slice none 0 0]:=Zc;have J:Blk N (w.heap.size+1) 60 #[.int .u8 117,.int .i64 0,.string ⟨#[]⟩,.slice none 0 0]:=Zx;have P:Rdr N g s p 0:=h.below F;have HC:=hide (zC P hs hp);have O:=hide (fun (W:World) (p':Nat) (x:Int) (hW:Rdr W g s p' x)=>bE hW);have HG:=hide (wO (s.data.toList.drop p) rfl);have K:g≠w.heap.size:=Z0;have L:g≠w.heap.size+1:=Z0;clear h P;go_enter func92,ntmps92;go_upto_region 2 with fail;rw [<-hW0];clear hW0;go_wp2_with fail;refine HC.out.mono ?_;rintro e w1 (⟨a,p',hg,rfl,G,ac,u⟩ | ⟨x,hg,Q,rfl,G,u⟩)
 ·have r:=J.grown u (fun e=>L (Y9 e).symm)
  have D:=I.grown u (fun e=>K (Y9 e).symm);have C:w.grownBy w1 (some g):=aj (ag F _) u;have Hg:=hide hg;have hw:IntKind.i64.wrap ((a:Nat):Int)=a:=wrap_small _ Z0 (by have:=(lM hg).2;omega);clear hg u;have S:=r.cell 1;have f1:=r.frozen 1;simp only [Jx,Q1,Q2] at S;have o:=r.set_ 1 (.int .i64 a);have j:=D.far (p:=⟨w.heap.size+1,1,none⟩) Z3 (.int .i64 a);have q:Rdr (w1.setCell ⟨w.heap.size+1,1,none⟩ (.int .i64 a)) g s p' 0:=Blk.far G (p:=⟨w.heap.size+1,1,none⟩) L (.int .i64 a);have z:w.grownBy (w1.setCell ⟨w.heap.size+1,1,none⟩ (.int .i64 a)) (some g):=ah C (.inr Z3) _;go_wp2_with (first  | fail);refine (O.out _ _ _ q).mono ?_;rintro e w2 ⟨rfl,rfl⟩;go_upto_region 19 with fail;generalize w1.setCell ⟨w.heap.size+1,1,none⟩ (.int .i64 a)=w5 at o j q z ⊢;have Y:=o.cell 0;have x1:=o.cell 1;have x2:=o.cell 2;have Z:=o.cell 3;have T:=j.cell 0;have U:=j.cell 1;have V:=j.cell 2;have X:=j.cell 3;have t0:=j.frozen 0;have t1:=j.frozen 1;have t2:=j.frozen 2;have t3:=j.frozen 3;simp at Y x1 x2 Z T U V X;have hF:=gP j (.int .u8 117) (.int .i64 a) (.string ⟨#[]⟩) (.slice none 0 0);have A:=aJ z (Y2 w.heap.size) (.int .u8 117) (.int .i64 a) (.string ⟨#[]⟩) (.slice none 0 0);have B:=dM q K (.int .u8 117) (.int .i64 a) (.string ⟨#[]⟩) (.slice none 0 0);clear S f1 r D o j G q C z HC O J I F R;go_wp2_with fail;generalize (((w5.setCell ⟨w.heap.size,0,none⟩ (.int .u8 117)).setCell ⟨w.heap.size,1,none⟩ (.int .i64 a)).setCell ⟨w.heap.size,2,none⟩ (.string ⟨#[]⟩)).setCell ⟨w.heap.size,3,none⟩ (.slice none 0 0)=wF at hF A B ⊢
  have q0:=hF.cell 0;have q1:=hF.cell 1;have q2:=hF.cell 2;have q3:=hF.cell 3;simp at q0 q1 q2 q3;have HF:=hide (show jY 117 w g s p (.returned (.tuple #[.agg #[.int .u8 117,.int .i64 a,.string ⟨#[]⟩,.slice none 0 0],.int .i64 0])) wF from .inl ⟨⟨117,a,[],[]⟩,.slice none 0 0,p',Zq,rfl,dO _ _ _,B,ac,A⟩);clear Y x1 x2 Z T U V X t0 t1 t2 t3 hF A B HG Hg;exact bodyPost_ret (v:=.tuple #[.agg #[.int .u8 117,.int .i64 a,.string ⟨#[]⟩,.slice none 0 0],.int .i64 0]) Zf rfl HF.out
 ·have r:=J.grown u (fun e=>L (Y9 e).symm)
  have D:=I.grown u (fun e=>K (Y9 e).symm);have C:w.grownBy w1 (some g):=aj (ag F _) u;have aa:=hide (show dx 117 (s.data.toList.drop p)=.no x from YY);have hx1:((x:Int) == 0)=false:=Z6;have af:((x:Int) != 0)=true:=YU;have ab:=hide Q;clear hg u HG Q;have S:=r.cell 1;have f1:=r.frozen 1;simp only [Jx,Q1,Q2] at S;have o:=r.set_ 1 (.int .i64 0);have j:=D.far (p:=⟨w.heap.size+1,1,none⟩) Z3 (.int .i64 0);have q:Rdr (w1.setCell ⟨w.heap.size+1,1,none⟩ (.int .i64 0)) g s p x:=Blk.far G (p:=⟨w.heap.size+1,1,none⟩) L (.int .i64 0);have z:w.grownBy (w1.setCell ⟨w.heap.size+1,1,none⟩ (.int .i64 0)) (some g):=ah C (.inr Z3) _;go_wp2_with (first  | fail);refine (O.out _ _ _ q).mono ?_;rintro e w2 ⟨rfl,rfl⟩;go_wp2_with fail;refine (O.out _ _ _ q).mono ?_;rintro e w3 ⟨rfl,rfl⟩;go_upto_region 19 with fail;generalize w1.setCell ⟨w.heap.size+1,1,none⟩ (.int .i64 0)=w5 at o j q z ⊢;have Y:=o.cell 0;have x1:=o.cell 1;have x2:=o.cell 2;have Z:=o.cell 3;have T:=j.cell 0;have U:=j.cell 1;have V:=j.cell 2;have X:=j.cell 3;have t0:=j.frozen 0;have t1:=j.frozen 1;have t2:=j.frozen 2;have t3:=j.frozen 3;simp at Y x1 x2 Z T U V X;have hF:=gP j (.int .u8 117) (.int .i64 0) (.string ⟨#[]⟩) (.slice none 0 0);have A:=aJ z (Y2 w.heap.size) (.int .u8 117) (.int .i64 0) (.string ⟨#[]⟩) (.slice none 0 0);have B:=dM q K (.int .u8 117) (.int .i64 0) (.string ⟨#[]⟩) (.slice none 0 0);clear S f1 r D o j G q C z HC O J I F R;go_wp2_with fail;generalize (((w5.setCell ⟨w.heap.size,0,none⟩ (.int .u8 117)).setCell ⟨w.heap.size,1,none⟩ (.int .i64 0)).setCell ⟨w.heap.size,2,none⟩ (.string ⟨#[]⟩)).setCell ⟨w.heap.size,3,none⟩ (.slice none 0 0)=wF at hF A B ⊢
  have q0:=hF.cell 0;have q1:=hF.cell 1;have q2:=hF.cell 2;have q3:=hF.cell 3;simp at q0 q1 q2 q3;have HF:=hide (show jY 117 w g s p (.returned (.tuple #[.agg #[.int .u8 117,.int .i64 0,.string ⟨#[]⟩,.slice none 0 0],.int .i64 x])) wF from .inr ⟨x,_,_,_,_,_,_,aa.out,ab.out,rfl,A⟩);clear Y x1 x2 Z T U V X t0 t1 t2 t3 hF A B;exact bodyPost_ret (v:=.tuple #[.agg #[.int .u8 117,.int .i64 0,.string ⟨#[]⟩,.slice none 0 0],.int .i64 x]) Zf rfl HF.out

theorem RZ (h:Rdr w g s p 0) (hs:s.size<=1000000) (hp:p<=s.size):Calls prog 92 #[.pointer (some ⟨g,0,none⟩),.int .u8 98] w (jY 98 w g s p):=by
 have ad:=Blk.lt h
 obtain ⟨N,hW0⟩:∃N,N=(w.alloc (.cells #[.int .u8 0,.int .i64 0,.string ⟨#[]⟩,.slice none 0 0] 60)).alloc (.cells #[.int .u8 98,.int .i64 0,.string ⟨#[]⟩,.slice none 0 0] 60):=⟨_,rfl⟩
 have F:Below w.heap.size w N:=Zg;have V:N.heap.size=w.heap.size+2:=ZO;have I:Blk N w.heap.size 60 #[.int .u8 0,.int .i64 0,.string ⟨#[]⟩,.slice none 0 0]:=Zc;have J:Blk N (w.heap.size+1) 60 #[.int .u8 98,.int .i64 0,.string ⟨#[]⟩,.slice none 0 0]:=ZB;have T:Rdr N g s p 0:=h.below F;have HC:=hide (EW T hs hp);have Q:=hide (fun (W:World) (p':Nat) (x:Int) (hW:Rdr W g s p' x)=>bE hW);have HG:=hide (uP (s.data.toList.drop p) rfl);have S:=hide (fun W=>(show Calls prog 155 #[.bool false] W (fun e w2=>e=.returned (.int .i64 0)/\w2=W) from rQ false W));have K:g≠w.heap.size:=Z0;have L:g≠w.heap.size+1:=Z0;clear h T;go_enter func92,ntmps92;go_upto_region 2 with fail;rw [<-hW0];clear hW0;go_wp2_with fail;refine HC.out.mono ?_;rintro e w1 (⟨a,p',hg,rfl,G,ac,u⟩ | ⟨x,hg,U,rfl,G,u⟩)
 ·have r:=J.grown u (fun e=>L (Y9 e).symm)
  have D:=I.grown u (fun e=>K (Y9 e).symm);have C:w.grownBy w1 (some g):=aj (ag F _) u;have Hg:=hide hg;have R:=hide (fun W=>(show Calls prog 155 #[.bool (a == 1)] W (fun e w2=>e=.returned (.int .i64 a)/\w2=W) from by rcases De hg with rfl | rfl;exact rQ false W;exact rQ true W));clear hg u;have X:=r.cell 1;have f1:=r.frozen 1;simp only [Jx,Q1,Q2] at X;have o:=r.set_ 1 (.int .i64 a);have j:=D.far (p:=⟨w.heap.size+1,1,none⟩) Z3 (.int .i64 a);have q:Rdr (w1.setCell ⟨w.heap.size+1,1,none⟩ (.int .i64 a)) g s p' 0:=Blk.far G (p:=⟨w.heap.size+1,1,none⟩) L (.int .i64 a);have z:w.grownBy (w1.setCell ⟨w.heap.size+1,1,none⟩ (.int .i64 a)) (some g):=ah C (.inr Z3) _;go_wp2_with (first | (go_at_call 155;(with_reducible refine (R.out _).mono ?_);(rintro e P ⟨rfl,O⟩);(obtain rfl:w1=P:=O.symm)) | (go_at_call 155;(with_reducible refine (S.out _).mono ?_);(rintro e P ⟨rfl,O⟩);(obtain rfl:w1=P:=O.symm)));refine (Q.out _ _ _ q).mono ?_;rintro e w2 ⟨rfl,rfl⟩;go_upto_region 19 with fail;generalize w1.setCell ⟨w.heap.size+1,1,none⟩ (.int .i64 a)=w5 at o j q z ⊢;have x0:=o.cell 0;have x1:=o.cell 1;have x2:=o.cell 2;have x3:=o.cell 3;have Y:=j.cell 0;have Z:=j.cell 1;have r2:=j.cell 2;have r3:=j.cell 3;have t0:=j.frozen 0;have t1:=j.frozen 1;have t2:=j.frozen 2;have t3:=j.frozen 3;simp at x0 x1 x2 x3 Y Z r2 r3;have hF:=gP j (.int .u8 98) (.int .i64 a) (.string ⟨#[]⟩) (.slice none 0 0);have A:=aJ z (Y2 w.heap.size) (.int .u8 98) (.int .i64 a) (.string ⟨#[]⟩) (.slice none 0 0);have B:=dM q K (.int .u8 98) (.int .i64 a) (.string ⟨#[]⟩) (.slice none 0 0)
  clear X f1 r D o j G q C z HC Q J I F V;go_wp2_with fail;generalize (((w5.setCell ⟨w.heap.size,0,none⟩ (.int .u8 98)).setCell ⟨w.heap.size,1,none⟩ (.int .i64 a)).setCell ⟨w.heap.size,2,none⟩ (.string ⟨#[]⟩)).setCell ⟨w.heap.size,3,none⟩ (.slice none 0 0)=wF at hF A B ⊢;have q0:=hF.cell 0;have q1:=hF.cell 1;have q2:=hF.cell 2;have q3:=hF.cell 3;simp at q0 q1 q2 q3;have HF:=hide (show jY 98 w g s p (.returned (.tuple #[.agg #[.int .u8 98,.int .i64 a,.string ⟨#[]⟩,.slice none 0 0],.int .i64 0])) wF from .inl ⟨⟨98,a,[],[]⟩,.slice none 0 0,p',Zq,rfl,dO _ _ _,B,ac,A⟩);clear x0 x1 x2 x3 Y Z r2 r3 t0 t1 t2 t3 hF A B HG Hg;exact bodyPost_ret (v:=.tuple #[.agg #[.int .u8 98,.int .i64 a,.string ⟨#[]⟩,.slice none 0 0],.int .i64 0]) Zf rfl HF.out
 ·have r:=J.grown u (fun e=>L (Y9 e).symm)
  have D:=I.grown u (fun e=>K (Y9 e).symm);have C:w.grownBy w1 (some g):=aj (ag F _) u;have aa:=hide (show dx 98 (s.data.toList.drop p)=.no x from YY);have hx1:((x:Int) == 0)=false:=Z6;have af:((x:Int) != 0)=true:=YU;have ab:=hide U;clear hg u HG U;have X:=r.cell 1;have f1:=r.frozen 1;simp only [Jx,Q1,Q2] at X;have o:=r.set_ 1 (.int .i64 0);have j:=D.far (p:=⟨w.heap.size+1,1,none⟩) Z3 (.int .i64 0);have q:Rdr (w1.setCell ⟨w.heap.size+1,1,none⟩ (.int .i64 0)) g s p x:=Blk.far G (p:=⟨w.heap.size+1,1,none⟩) L (.int .i64 0);have z:w.grownBy (w1.setCell ⟨w.heap.size+1,1,none⟩ (.int .i64 0)) (some g):=ah C (.inr Z3) _;go_wp2_with (first | (go_at_call 155;(with_reducible refine (R.out _).mono ?_);(rintro e P ⟨rfl,O⟩);(obtain rfl:w1=P:=O.symm)) | (go_at_call 155;(with_reducible refine (S.out _).mono ?_);(rintro e P ⟨rfl,O⟩);(obtain rfl:w1=P:=O.symm)));refine (Q.out _ _ _ q).mono ?_;rintro e w2 ⟨rfl,rfl⟩;go_wp2_with fail;refine (Q.out _ _ _ q).mono ?_;rintro e w3 ⟨rfl,rfl⟩;go_upto_region 19 with fail;generalize w1.setCell ⟨w.heap.size+1,1,none⟩ (.int .i64 0)=w5 at o j q z ⊢;have x0:=o.cell 0;have x1:=o.cell 1;have x2:=o.cell 2;have x3:=o.cell 3;have Y:=j.cell 0;have Z:=j.cell 1;have r2:=j.cell 2;have r3:=j.cell 3;have t0:=j.frozen 0;have t1:=j.frozen 1;have t2:=j.frozen 2;have t3:=j.frozen 3;simp at x0 x1 x2 x3 Y Z r2 r3;have hF:=gP j (.int .u8 98) (.int .i64 0) (.string ⟨#[]⟩) (.slice none 0 0);have A:=aJ z (Y2 w.heap.size) (.int .u8 98) (.int .i64 0) (.string ⟨#[]⟩) (.slice none 0 0)
  have B:=dM q K (.int .u8 98) (.int .i64 0) (.string ⟨#[]⟩) (.slice none 0 0);clear X f1 r D o j G q C z HC Q J I F V;go_wp2_with fail;generalize (((w5.setCell ⟨w.heap.size,0,none⟩ (.int .u8 98)).setCell ⟨w.heap.size,1,none⟩ (.int .i64 0)).setCell ⟨w.heap.size,2,none⟩ (.string ⟨#[]⟩)).setCell ⟨w.heap.size,3,none⟩ (.slice none 0 0)=wF at hF A B ⊢;have q0:=hF.cell 0;have q1:=hF.cell 1;have q2:=hF.cell 2;have q3:=hF.cell 3;simp at q0 q1 q2 q3;have HF:=hide (show jY 98 w g s p (.returned (.tuple #[.agg #[.int .u8 98,.int .i64 0,.string ⟨#[]⟩,.slice none 0 0],.int .i64 x])) wF from .inr ⟨x,_,_,_,_,_,_,aa.out,ab.out,rfl,A⟩);clear x0 x1 x2 x3 Y Z r2 r3 t0 t1 t2 t3 hF A B;exact bodyPost_ret (v:=.tuple #[.agg #[.int .u8 98,.int .i64 0,.string ⟨#[]⟩,.slice none 0 0],.int .i64 x]) Zf rfl HF.out
end
theorem BU {s:ByteArray} {p:Nat} {a o:List UInt8} (h:dA (s.data.toList.drop p)=.ok a o) (hs:s.size<=1000000):a.length<=1000000:=by
 have j:=Ye List.length (iP h).1;have q:=kP s p;simp only [Ya,bi,bM] at j;omega
theorem yN (h:dA r=.no x):pW r=.no x:=by
 unfold pW;rw [h]
section
variable {w : World} {g p : Nat} {s : ByteArray}

theorem P5 (hM:kH w) (h:Rdr w g s p 0) (hs:s.size<=1000000) (hp:p<=s.size):Calls prog 92 #[.pointer (some ⟨g,0,none⟩),.int .u8 110] w (jY 110 w g s p):=by
 have ao:=Blk.lt h
 obtain ⟨W0,hW0⟩:∃W0,W0=(w.alloc (.cells #[.int .u8 0,.int .i64 0,.string ⟨#[]⟩,.slice none 0 0] 60)).alloc (.cells #[.int .u8 110,.int .i64 0,.string ⟨#[]⟩,.slice none 0 0] 60):=⟨_,rfl⟩
 have P:Below w.heap.size w W0:=Zg;have ab:W0.heap.size=w.heap.size+2:=ZO;have R:Blk W0 w.heap.size 60 #[.int .u8 0,.int .i64 0,.string ⟨#[]⟩,.slice none 0 0]:=Zc;have S:Blk W0 (w.heap.size+1) 60 #[.int .u8 110,.int .i64 0,.string ⟨#[]⟩,.slice none 0 0]:=Zy;have T:Rdr W0 g s p 0:=h.below P;have X:kH W0:=hM.below P;have HE:=hide (fun (W:World) (p':Nat) (x:Int) (hW:Rdr W g s p' x)=>bE hW);have HC:=hide (qg T hs hp);have HS:=hide (fun (W:World) (a:List UInt8) (hW:kH W) (ha:a.length<=1000000)=>Gl (w:=W) (bs a) hW ZJ);have HG:=hide (xE (k:=110) (s.data.toList.drop p) rfl);have Hs:=hide hs;have U:g≠w.heap.size:=Z0;have V:g≠w.heap.size+1:=Z0;go_enter func92,ntmps92;go_upto_region 2 with fail;rw [<-hW0];clear hW0;go_wp2_with fail;refine HC.out.mono ?_;rintro e w1 (⟨a,p',hg,rfl,J,an,u⟩ | ⟨x,hg,af,rfl,J,u⟩)
 ·have D:=S.grown u (fun e=>V (Y9 e).symm)
  have C:=R.grown u (fun e=>U (Y9 e).symm);have I:w.grownBy w1 (some g):=aj (ag P _) u;have aq:w.heap.size+2<=w1.heap.size:=by have:=u.size;omega
  have L:=hide (HS.out w1 a (X.grown T u) (BU hg Hs.out));rw [aO] at L;have ad:=sI hg;have Hg:=hide ad;clear hg ad u HC HS X T hM h;go_wp2_with fail;refine L.out.mono ?_;rintro e w2 ⟨v,rfl,hN,F⟩;obtain ⟨A,c,rfl,hc,Z⟩:=hN;have r:=D.below F D.lt;have O:=C.below F C.lt;have Q:Rdr w2 g s p' 0:=J.below F;have N:w.grownBy w2 (some g):=aj I (ag F _)
  have Y:bN w1.heap.size w2 (.slice A (splitN a).2.length c) (splitN a).2:=⟨A,c,rfl,hc,Z⟩
  clear D C J I Z L F hc
  by_cases hk:(splitN a).1=0
  ·rw [hk]
   have K:=hide (show dx 110 (s.data.toList.drop p)=.ok ⟨110,0,[],(splitN a).2⟩ (s.data.toList.drop p') from by rw [HG.out,Hg.out,Y6 hk];rfl);generalize (splitN a).2=ls at Y K ⊢;clear hk Hg HG;have k1:=r.cell 3;have f1:=r.frozen 3;simp only [Jx,Q1,Q2] at k1;have o:=r.set_ 3 (.slice A ls.length c);have j:=O.far (p:=⟨w.heap.size+1,3,none⟩) Z3 (.slice A ls.length c);have q:Rdr (w2.setCell ⟨w.heap.size+1,3,none⟩ (.slice A ls.length c)) g s p' 0:=Blk.far Q (p:=⟨w.heap.size+1,3,none⟩) V (.slice A ls.length c);have z:w.grownBy (w2.setCell ⟨w.heap.size+1,3,none⟩ (.slice A ls.length c)) (some g):=ah N (.inr Z3) _;have ac:=Y.set_ (p:=⟨w.heap.size+1,3,none⟩) XH (.slice A ls.length c);go_wp2_with fail;refine (HE.out _ _ _ q).mono ?_;rintro e w3 ⟨rfl,rfl⟩;go_upto_region 19 with fail;generalize w2.setCell ⟨w.heap.size+1,3,none⟩ (.slice A ls.length c)=w5 at o j q z ac ⊢;have x0:=o.cell 0;have x1:=o.cell 1;have x2:=o.cell 2;have x3:=o.cell 3;have r0:=j.cell 0;have r1:=j.cell 1;have r2:=j.cell 2;have r3:=j.cell 3;have t0:=j.frozen 0;have t1:=j.frozen 1;have t2:=j.frozen 2;have t3:=j.frozen 3;simp at x0 x1 x2 x3 r0 r1 r2 r3;have hF:=gP j (.int .u8 110) (.int .i64 0) (.string ⟨#[]⟩) (.slice A ls.length c);have B:=aJ z (Y2 w.heap.size) (.int .u8 110) (.int .i64 0) (.string ⟨#[]⟩) (.slice A ls.length c);have G:=dM q U (.int .u8 110) (.int .i64 0) (.string ⟨#[]⟩) (.slice A ls.length c);have aa:=(((ac.set_ (p:=⟨w.heap.size,0,none⟩) Zl (.int .u8 110)).set_ (p:=⟨w.heap.size,1,none⟩) Zl (.int .i64 0)).set_ (p:=⟨w.heap.size,2,none⟩) Zl (.string ⟨#[]⟩)).set_ (p:=⟨w.heap.size,3,none⟩) Zl (.slice A ls.length c)
   clear k1 f1 r O o j Q q N z HE S R P ab;go_wp2_with fail;generalize (((w5.setCell ⟨w.heap.size,0,none⟩ (.int .u8 110)).setCell ⟨w.heap.size,1,none⟩ (.int .i64 0)).setCell ⟨w.heap.size,2,none⟩ (.string ⟨#[]⟩)).setCell ⟨w.heap.size,3,none⟩ (.slice A ls.length c)=wF at hF B G aa ⊢;have q0:=hF.cell 0;have q1:=hF.cell 1;have q2:=hF.cell 2;have q3:=hF.cell 3;simp at q0 q1 q2 q3;have HF:=hide (show jY 110 w g s p (.returned (.tuple #[.agg #[.int .u8 110,.int .i64 0,.string ⟨#[]⟩,.slice A ls.length c],.int .i64 0])) wF from .inl ⟨⟨110,0,[],ls⟩,.slice A ls.length c,p',K.out,rfl,aa.mono Z0,G,an,B⟩);clear x0 x1 x2 x3 r0 r1 r2 r3 t0 t1 t2 t3 hF B G aa;exact bodyPost_ret (v:=.tuple #[.agg #[.int .u8 110,.int .i64 0,.string ⟨#[]⟩,.slice A ls.length c],.int .i64 0]) Zf rfl HF.out
  ·have K:=hide (show dx 110 (s.data.toList.drop p)=.no (splitN a).1 from by rw [HG.out,Hg.out,Y5 hk];rfl)
   have Hk:=hide hk;generalize (splitN a).2=ls at Y ⊢;generalize (splitN a).1=ke at K Hk ⊢;clear hk Hg HG Y;have k1:=r.cell 3;have f1:=r.frozen 3;simp only [Jx,Q1,Q2] at k1;have o:=r.set_ 3 (.slice A ls.length c);have j:=O.far (p:=⟨w.heap.size+1,3,none⟩) Z3 (.slice A ls.length c);have q:Rdr (w2.setCell ⟨w.heap.size+1,3,none⟩ (.slice A ls.length c)) g s p' 0:=Blk.far Q (p:=⟨w.heap.size+1,3,none⟩) V (.slice A ls.length c);have z:w.grownBy (w2.setCell ⟨w.heap.size+1,3,none⟩ (.slice A ls.length c)) (some g):=ah N (.inr Z3) _;go_wp2_with fail;refine (HE.out _ _ _ q).mono ?_;rintro e w3 ⟨rfl,rfl⟩;go_upto_region 19 with fail;generalize w2.setCell ⟨w.heap.size+1,3,none⟩ (.slice A ls.length c)=w5 at o j q z ⊢;have x0:=o.cell 0;have x1:=o.cell 1;have x2:=o.cell 2;have x3:=o.cell 3;have r0:=j.cell 0;have r1:=j.cell 1;have r2:=j.cell 2;have r3:=j.cell 3;have t0:=j.frozen 0;have t1:=j.frozen 1;have t2:=j.frozen 2;have t3:=j.frozen 3;simp at x0 x1 x2 x3 r0 r1 r2 r3;have hF:=gP j (.int .u8 110) (.int .i64 0) (.string ⟨#[]⟩) (.slice A ls.length c);have B:=aJ z (Y2 w.heap.size) (.int .u8 110) (.int .i64 0) (.string ⟨#[]⟩) (.slice A ls.length c);have G:=dM q U (.int .u8 110) (.int .i64 0) (.string ⟨#[]⟩) (.slice A ls.length c);clear k1 f1 r O o j Q q N z HE S R P ab;go_wp2_with fail;generalize (((w5.setCell ⟨w.heap.size,0,none⟩ (.int .u8 110)).setCell ⟨w.heap.size,1,none⟩ (.int .i64 0)).setCell ⟨w.heap.size,2,none⟩ (.string ⟨#[]⟩)).setCell ⟨w.heap.size,3,none⟩ (.slice A ls.length c)=wF at hF B G ⊢
   have q0:=hF.cell 0;have q1:=hF.cell 1;have q2:=hF.cell 2;have q3:=hF.cell 3;simp at q0 q1 q2 q3;have HF:=hide (show jY 110 w g s p (.returned (.tuple #[.agg #[.int .u8 110,.int .i64 0,.string ⟨#[]⟩,.slice A ls.length c],.int .i64 ke])) wF from .inr ⟨ke,_,_,_,_,_,_,K.out,Hk.out,rfl,B⟩);clear x0 x1 x2 x3 r0 r1 r2 r3 t0 t1 t2 t3 hF B G;exact bodyPost_ret (v:=.tuple #[.agg #[.int .u8 110,.int .i64 0,.string ⟨#[]⟩,.slice A ls.length c],.int .i64 ke]) Zf rfl HF.out
 ·have D:=S.grown u (fun e=>V (Y9 e).symm)
  have C:=R.grown u (fun e=>U (Y9 e).symm);have I:w.grownBy w1 (some g):=aj (ag P _) u;have L:=hide (HS.out w1 [] (X.grown T u) Z3);rw [aO,show bs []=⟨#[]⟩ from rfl,show splitN []=(0,[]) from rfl] at L;have K:=hide (show dx 110 (s.data.toList.drop p)=.no x from by rw [HG.out,yN hg];rfl);have hx1:((x:Int) == 0)=false:=Z6;have ap:((x:Int) != 0)=true:=YU;have am:=hide af;clear hg u HC HS X T hM h HG af;go_wp2_with fail;refine L.out.mono ?_;rintro e w2 ⟨v,rfl,hN,F⟩;obtain ⟨A,c,rfl,hc,Z⟩:=hN;have r:=D.below F D.lt;have O:=C.below F C.lt;have Q:Rdr w2 g s p x:=J.below F;have N:w.grownBy w2 (some g):=aj I (ag F _);clear D C J I Z L F hc;have k1:=r.cell 3;have f1:=r.frozen 3;simp only [Jx,Q1,Q2] at k1;have o:=r.set_ 3 (.slice A 0 c);have j:=O.far (p:=⟨w.heap.size+1,3,none⟩) Z3 (.slice A 0 c);have q:Rdr (w2.setCell ⟨w.heap.size+1,3,none⟩ (.slice A 0 c)) g s p x:=Blk.far Q (p:=⟨w.heap.size+1,3,none⟩) V (.slice A 0 c);have z:w.grownBy (w2.setCell ⟨w.heap.size+1,3,none⟩ (.slice A 0 c)) (some g):=ah N (.inr Z3) _;go_wp2_with fail;refine (HE.out _ _ _ q).mono ?_;rintro e w3 ⟨rfl,rfl⟩;go_wp2_with fail;refine (HE.out _ _ _ q).mono ?_;rintro e w4 ⟨rfl,rfl⟩;go_upto_region 19 with fail;generalize w2.setCell ⟨w.heap.size+1,3,none⟩ (.slice A 0 c)=w5 at o j q z ⊢;have x0:=o.cell 0;have x1:=o.cell 1;have x2:=o.cell 2;have x3:=o.cell 3;have r0:=j.cell 0;have r1:=j.cell 1;have r2:=j.cell 2;have r3:=j.cell 3;have t0:=j.frozen 0;have t1:=j.frozen 1;have t2:=j.frozen 2;have t3:=j.frozen 3;simp at x0 x1 x2 x3 r0 r1 r2 r3
  have hF:=gP j (.int .u8 110) (.int .i64 0) (.string ⟨#[]⟩) (.slice A 0 c);have B:=aJ z (Y2 w.heap.size) (.int .u8 110) (.int .i64 0) (.string ⟨#[]⟩) (.slice A 0 c);have G:=dM q U (.int .u8 110) (.int .i64 0) (.string ⟨#[]⟩) (.slice A 0 c);clear k1 f1 r O o j Q q N z HE S R P ab;go_wp2_with fail;generalize (((w5.setCell ⟨w.heap.size,0,none⟩ (.int .u8 110)).setCell ⟨w.heap.size,1,none⟩ (.int .i64 0)).setCell ⟨w.heap.size,2,none⟩ (.string ⟨#[]⟩)).setCell ⟨w.heap.size,3,none⟩ (.slice A 0 c)=wF at hF B G ⊢;have q0:=hF.cell 0;have q1:=hF.cell 1;have q2:=hF.cell 2;have q3:=hF.cell 3;simp at q0 q1 q2 q3;have HF:=hide (show jY 110 w g s p (.returned (.tuple #[.agg #[.int .u8 110,.int .i64 0,.string ⟨#[]⟩,.slice A 0 c],.int .i64 x])) wF from .inr ⟨x,_,_,_,_,_,_,K.out,am.out,rfl,B⟩);clear x0 x1 x2 x3 r0 r1 r2 r3 t0 t1 t2 t3 hF B G;exact bodyPost_ret (v:=.tuple #[.agg #[.int .u8 110,.int .i64 0,.string ⟨#[]⟩,.slice A 0 c],.int .i64 x]) Zf rfl HF.out

def TQ (w:World) (g:Nat) (s:ByteArray) (p:Nat) (e:Ending) (w':World):Prop :=
 (∃ls v p',lu (s.data.toList.drop p)=.ok ls (s.data.toList.drop p')/\e=.returned (.tuple #[v,.int .i64 0])/\bN w.heap.size w' v ls/\Rdr w' g s p' 0/\p'<=s.size/\w.grownBy w' (some g)) \/
 (∃x:Nat,∃A n c p' y,lu (s.data.toList.drop p)=.no x/\x≠0/\e=.returned (.tuple #[.slice A n c,.int .i64 x])/\Rdr w' g s p' y/\(y=0\/y=x)/\w.grownBy w' (some g))

theorem og {b c:World} {g:Nat} {row:Option Nat} (h:a.grownBy b (some g)) (k:b.grownBy c row) (o:∀i,row=some i->a.heap.size<=i):a.grownBy c (some g) :=
 ⟨k.os.trans h.os,k.tape.trans h.tape,k.output.trans h.output,Yg h.size k.size,fun i hi j=>(k.block i (Yi hi h.size) (fun e=>by have:=o i e.symm;omega)).trans (h.block i hi j)⟩
theorem ou {w:World} {B c:Nat} {A:Option Addr} {e:TypeId} (h:w.ownsRow B e 1 (.slice A n c) n ((ls.map bs).map Value.string)) (v:n=ls.length):bN B w (.slice A n c) ls:=by
 subst v
 have u:ls.length<=c:=by
  rcases h.2 with ⟨j,D⟩ | ⟨g,cap,q,j,_,_,z,_⟩
  ·injection j with _ e3 e4
   omega
  ·injection j with _ _ e4
   omega
 refine ⟨A,c,rfl,u,by rw [Yd,Yd,Nat.mul_one],fun hp=>?_⟩;obtain ⟨g,cap,C,_,o⟩:=h.form hp;have r:A=some ⟨g,0,none⟩:=by injection C
 subst r;exact ⟨_,rfl,(h.lt g rfl).1,o,h.cells (g:=g) rfl⟩
theorem GL {a:List UInt8} (h:R=(cK (n+1) q).map (ls++·)) (j:dA q=.ok a r):R=(cK n r).map ((ls++[a])++·):=by
 rw [h];simp only [cK];rw [j];simp only
 cases cK n r with
 | no e=>rfl
 | ok l r2=>simp [Res.map]
theorem Px (h:R=(cK (n+1) q).map (ls++·)) (j:dA q=.no x):R=.no x:=by
 rw [h];simp only [cK];rw [j];rfl
theorem Db (h:lJ r=.no x):lu r=.no x:=by
 unfold lu;rw [h]
structure Tt (w:World) (g:Nat) (s:ByteArray) (R:Res (List (List UInt8))) (N j:Nat) (A:Option Addr) (c:Nat) (wr:World):Prop where
 st:∃ls:List (List UInt8),ls.length=j/\wr.ownsRow w.heap.size 9 1 (.slice A j c) j ((ls.map bs).map Value.string) /\
  ((∃p',Rdr wr g s p' 0/\p'<=s.size/\R=(cK (N - j) (s.data.toList.drop p')).map (ls++·))\/(∃p',∃x:Nat,Rdr wr g s p' x/\x≠0/\R=.no x))
 gb:w.grownBy wr (some g)
theorem Kj (h:Rdr w g s p 0) (hs:s.size<=1000000) (hp:p<=s.size):Calls prog 162 #[.pointer (some ⟨g,0,none⟩)] w (TQ w g s p):=by
  have a7:=Blk.lt h;obtain ⟨iI,Z,U,V,X⟩:=eP uK;have HU:=hide (zC h hs hp);have HE:=hide (fun (W:World) (D:Nat) (x:Int) (hW:Rdr W g s D x)=>bE hW);have ao:=hide (fun (W:World) (D:Nat) (hW:Rdr W g s D 0) (P:D<=s.size)=>qg hW hs P);have an:=hide (fun (W:World) (D:Nat) (x:Int) (hW:Rdr W g s D x) (hx:(x == 0)=false)=>Ga hW hx);clear h;go_enter func162,ntmps162;go_wp2_with fail;refine HU.out.mono ?_;rintro e w1 (⟨n,p1,Y,rfl,I,ac,O⟩ | ⟨x,Y,C,rfl,I,O⟩)
  · by_cases h8:8<n
    · have ap:(8:Int)<n:=by omega
      have HG:=hide (show lu (s.data.toList.drop p)=.no 2 from by rw [nV Y,Y6 h8]);clear Y;go_wp2_with fail;go_ret2;exact .inr ⟨2,none,0,0,p1,0,HG.out,Z2,rfl,I,.inl rfl,O⟩
    · have ap:¬ (8:Int)<n:=by omega
      have HG:=hide (show lu (s.data.toList.drop p)=cK (2*n) (s.data.toList.drop p1) from by rw [nV Y,Y5 h8]);have av:(2*(n:Int)) % 4294967296=((2*n:Nat):Int):=Z0
      have aw:IntKind.u32.wrap (2*(n:Int))=((2*n:Nat):Int):=by
        exact zz7df
      obtain ⟨N,hN⟩:∃N,N=2*n:=⟨_,rfl⟩
      have a0:N<=16:=Z0;have aa:=hide (show Tt w g s (cK (2*n) (s.data.toList.drop p1)) N 0 none 0 w1 from ⟨⟨[],rfl,World.ownsRow_nil _ _ _ _,.inl ⟨p1,I,ac,by rw [hN,Nat.sub_zero];cases cK (2*n) (s.data.toList.drop p1) <;> simp [Res.map]⟩⟩,O⟩);rw [<-hN] at av aw;generalize cK (2*n) (s.data.toList.drop p1)=R at HG aa;clear Y I ac O HU hN;go_wp2_with fail
      go_loopw [5,12] (fun vo vi wr=>∃(j:Nat) (A:Option Addr) (c:Nat),vo=.slice A j c/\vi=.int .u32 j/\j<=N/\Hid (Tt w g s R N j A c wr)) (fun vo _ _=>N - KI vo)
      case atStart=>exact ⟨0,none,0,rfl,rfl,Yb _,aa⟩
      case round =>
        obtain ⟨j,A,c,rfl,rfl,hj,HI⟩:=hrel;obtain ⟨ls,F,u,ad⟩:=HI.out.st;have z:=HI.out.gb
        by_cases a5:j<N
        · have a6:(j:Int)<(N:Int):=by omega
          have a3:((j:Int)+1) % 4294967296=((j+1:Nat):Int):=Z0
          have a4:IntKind.u32.wrap ((j:Int)+1)=((j+1:Nat):Int):=by
            exact zz7df
          have aq:N - j=(N - (j+1))+1:=Z0;rcases ad with ⟨D,G,P,J⟩ | ⟨D,x,G,C,J⟩
          · rw [aq] at J
            have HT:=hide (ao.out wr D G P);have HR:=hide J;have HO:=hide (Y4 u (Y4 G (Y4 z F)));clear J u G z F HI;go_wp2_with fail;refine HT.out.mono ?_;rintro e w2 (⟨a,p2,L,rfl,B,aE,r⟩ | ⟨x,L,af,rfl,B,r⟩)
            · have S:=hide L
              clear L HT;have o:=HO.out.1.kept r (.inr (bf HO.out.1 HO.out.2.1 Z2));have v:=aj HO.out.2.2.1 r;have am:=v.size;clear r
              go_wp2_with (first
                | (at_builtin;refine aB _ rfl (.tmp 14) (.tmp 17) _ rfl w.heap.size 9 iI (.string ⟨#[]⟩) 1 16 underlying22 Z U V X rfl Z2 (.slice A j c) j _ rfl (o.alloc _) _ (some ⟨_,0,none⟩) 1 1 [.string (bs a)] rfl (dJ (Blk.new _ _ _) rfl) Zd Ze Z0 Zm ?_;intro v6 w6 hown6 q T;obtain ⟨A6,c6,rfl⟩:=ed hown6;
                   have K:=og (dK v (.cells #[.string (bs a)] 9)) q (fun i e=>(o.lt i e).1);
                   have Q:=Blk.grown (Blk.alloc B (.cells #[.string (bs a)] 9)) q (fun e=>bf o B Z2 e.symm))
                | fail)
              refine ⟨⟨j+1,A6,c6,by first | rfl | (simp;done),by first | rfl | go_num | (simp;done),Z0,hide ⟨⟨ls++[a],by rw [Ya,HO.out.2.2.2];rfl,YV,.inl ⟨p2,Q,aE,GL HR.out S.out⟩⟩,K⟩⟩,by simp [KI];omega⟩
            · have S:=hide (Y4 L af)
              clear L af HT;have o:=HO.out.1.kept r (.inr (bf HO.out.1 HO.out.2.1 Z2));have v:=aj HO.out.2.2.1 r;have am:=v.size;clear r
              go_wp2_with (first
                | (at_builtin;refine aB _ rfl (.tmp 14) (.tmp 17) _ rfl w.heap.size 9 iI (.string ⟨#[]⟩) 1 16 underlying22 Z U V X rfl Z2 (.slice A j c) j _ rfl (o.alloc _) _ (some ⟨_,0,none⟩) 1 1 [.string (⟨#[]⟩)] rfl (dJ (Blk.new _ _ _) rfl) Zd Ze Z0 Zm ?_;intro v6 w6 hown6 q T;obtain ⟨A6,c6,rfl⟩:=ed hown6;
                   have K:=og (dK v (.cells #[.string (⟨#[]⟩)] 9)) q (fun i e=>(o.lt i e).1);
                   have Q:=Blk.grown (Blk.alloc B (.cells #[.string (⟨#[]⟩)] 9)) q (fun e=>bf o B Z2 e.symm))
                | fail)
              refine ⟨⟨j+1,A6,c6,by first | rfl | (simp;done),by first | rfl | go_num | (simp;done),Z0,hide ⟨⟨ls++[[]],by rw [Ya,HO.out.2.2.2];rfl,YV,.inr ⟨D,x,Q,S.out.2,Px HR.out S.out.1⟩⟩,K⟩⟩,by simp [KI];omega⟩
          · have aF:((x:Int) == 0)=false:=by rw [Y3];omega
            have HT:=hide (an.out wr D x G aF);have HR:=hide (Y4 J C);have HO:=hide (Y4 u (Y4 G (Y4 z F)));clear J u G z F HI C;go_wp2_with fail;refine HT.out.mono ?_;rintro e w2 ⟨rfl,B,r⟩;have o:=HO.out.1.kept r (.inr (bf HO.out.1 HO.out.2.1 Z2));have v:=aj HO.out.2.2.1 r;have am:=v.size;clear r
            go_wp2_with (first
              | (at_builtin;refine aB _ rfl (.tmp 14) (.tmp 17) _ rfl w.heap.size 9 iI (.string ⟨#[]⟩) 1 16 underlying22 Z U V X rfl Z2 (.slice A j c) j _ rfl (o.alloc _) _ (some ⟨_,0,none⟩) 1 1 [.string (⟨#[]⟩)] rfl (dJ (Blk.new _ _ _) rfl) Zd Ze Z0 Zm ?_;intro v6 w6 hown6 q T;obtain ⟨A6,c6,rfl⟩:=ed hown6;
                 have K:=og (dK v (.cells #[.string (⟨#[]⟩)] 9)) q (fun i e=>(o.lt i e).1);
                 have Q:=Blk.grown (Blk.alloc B (.cells #[.string (⟨#[]⟩)] 9)) q (fun e=>bf o B Z2 e.symm))
              | fail)
            refine ⟨⟨j+1,A6,c6,by first | rfl | (simp;done),by first | rfl | go_num | (simp;done),Z0,hide ⟨⟨ls++[[]],by rw [Ya,HO.out.2.2.2];rfl,YV,.inr ⟨D,x,Q,HR.out.2,HR.out.1⟩⟩,K⟩⟩,by simp [KI];omega⟩
        · have ab:j=N:=by omega
          subst ab;rcases ad with ⟨D,G,P,J⟩ | ⟨D,x,G,C,J⟩
          · have HF:=hide (show lu (s.data.toList.drop p)=.ok ls (s.data.toList.drop D) from by rw [HG.out,J,Nat.sub_self];simp [cK,Res.map])
            have HO:=hide (Y4 (ou u F.symm) z);clear J u z F HI;go_wp2_with fail;refine (HE.out _ _ _ G).mono ?_;rintro e w2 ⟨rfl,rfl⟩;go_wp2_with fail;go_ret2;exact .inl ⟨ls,_,D,HF.out,rfl,HO.out.1,G,P,HO.out.2⟩
          · have HF:=hide (show lu (s.data.toList.drop p)=.no x from by rw [HG.out,J])
            have HO:=hide (Y4 z C);clear J u z F HI C;go_wp2_with fail;refine (HE.out _ _ _ G).mono ?_;rintro e w2 ⟨rfl,rfl⟩;go_wp2_with fail;go_ret2;exact .inr ⟨x,_,_,_,D,x,HF.out,HO.out.2,rfl,G,.inr rfl,HO.out.1⟩
  · have HF:=hide (show lu (s.data.toList.drop p)=.no x from Db Y)
    have Hx:=hide C;clear Y C HU;go_wp2_with fail
    go_loopw [5,12] (fun vo vi wr=>wr=w1/\vo=.slice none 0 0/\vi=.int .u32 0) (fun vo _ _=>0)
    case atStart=>exact ⟨rfl,rfl,rfl⟩
    case round =>
      obtain ⟨rfl,rfl,rfl⟩:=hrel;go_wp2_with fail;refine (HE.out _ _ _ I).mono ?_;rintro e w2 ⟨rfl,rfl⟩;go_wp2_with fail;go_ret2;exact .inr ⟨x,none,0,0,p,x,HF.out,Hx.out,rfl,I,.inr rfl,O⟩

theorem zz6b9 {p_:Prop} (h_:p_:=by
 go_upto_region 19 with fail;generalize w2.setCell ⟨w.heap.size+1,3,none⟩ (.slice A n c)=w5 at hX2 hR2 hr2 hG2 ⊢;have x0:=hX2.cell 0;have x1:=hX2.cell 1;have x2:=hX2.cell 2;have x3:=hX2.cell 3;have r0:=hR2.cell 0;have r1:=hR2.cell 1;have r2:=hR2.cell 2;have r3:=hR2.cell 3;have t0:=hR2.frozen 0;have t1:=hR2.frozen 1;have t2:=hR2.frozen 2;have t3:=hR2.frozen 3;simp at x0 x1 x2 x3 r0 r1 r2 r3;have hF:=gP hR2 (.int .u8 101) (.int .i64 0) (.string ⟨#[]⟩) (.slice A n c);have hGF:=aJ hG2 (Y2 w.heap.size) (.int .u8 101) (.int .i64 0) (.string ⟨#[]⟩) (.slice A n c);have hrF:=dM hr2 ng0 (.int .u8 101) (.int .i64 0) (.string ⟨#[]⟩) (.slice A n c);clear k1 f1 hX1 hR1 hX2 hR2 hr1 hr2 hG1 hG2 HE hX0 hR0 hb0 hz0;go_wp2_with fail;generalize (((w5.setCell ⟨w.heap.size,0,none⟩ (.int .u8 101)).setCell ⟨w.heap.size,1,none⟩ (.int .i64 0)).setCell ⟨w.heap.size,2,none⟩ (.string ⟨#[]⟩)).setCell ⟨w.heap.size,3,none⟩ (.slice A n c)=wF at hF hGF hrF ⊢;have q0:=hF.cell 0;have q1:=hF.cell 1;have q2:=hF.cell 2;have q3:=hF.cell 3;simp at q0 q1 q2 q3;have HF:=hide (show jY 101 w g s p (.returned (.tuple #[.agg #[.int .u8 101,.int .i64 0,.string ⟨#[]⟩,.slice A n c],.int .i64 x])) wF from .inr ⟨x,_,_,_,_,_,_,HGO.out,Hx0.out,rfl,hGF⟩);clear x0 x1 x2 x3 r0 r1 r2 r3 t0 t1 t2 t3 hF hGF hrF
 exact bodyPost_ret (v:=.tuple #[.agg #[.int .u8 101,.int .i64 0,.string ⟨#[]⟩,.slice A n c],.int .i64 x]) (by simp [results,results92,go_sem,q0,q1,q2,q3]) rfl HF.out):p_:=h_
theorem P9 (J:kH w) (h:Rdr w g s p 0) (hs:s.size<=1000000) (hp:p<=s.size):Calls prog 92 #[.pointer (some ⟨g,0,none⟩),.int .u8 101] w (jY 101 w g s p):=by
 have N:=Blk.lt h
 obtain ⟨q,hW0⟩:∃q,q=(w.alloc (.cells #[.int .u8 0,.int .i64 0,.string ⟨#[]⟩,.slice none 0 0] 60)).alloc (.cells #[.int .u8 101,.int .i64 0,.string ⟨#[]⟩,.slice none 0 0] 60):=⟨_,rfl⟩
 have hb0:Below w.heap.size w q:=Zg;have hz0:q.heap.size=w.heap.size+2:=ZO;have hR0:Blk q w.heap.size 60 #[.int .u8 0,.int .i64 0,.string ⟨#[]⟩,.slice none 0 0]:=Zc;have hX0:Blk q (w.heap.size+1) 60 #[.int .u8 101,.int .i64 0,.string ⟨#[]⟩,.slice none 0 0]:=Zz;have B:Rdr q g s p 0:=h.below hb0;have C:kH q:=J.below hb0;have HE:=hide (fun (W:World) (r:Nat) (x:Int) (hW:Rdr W g s r x)=>bE hW);have I:=hide (Kj B hs hp);have HG:=hide (vw (k:=101) (s.data.toList.drop p) rfl);have ng0:g≠w.heap.size:=Z0;have o:g≠w.heap.size+1:=Z0;go_enter func92,ntmps92;go_upto_region 2 with fail;rw [<-hW0];clear hW0;go_wp2_with fail;refine I.out.mono ?_;rintro e w2 (⟨ls,v,r,hg,rfl,u,hr1,K,j⟩ | ⟨x,A,n,c,r,y,hg,G,rfl,hr1,P,j⟩)
 ·obtain ⟨A,c,rfl,L,F⟩:=u
  have u:bN q.heap.size w2 (.slice A ls.length c) ls:=⟨A,c,rfl,L,F⟩
  have Q:w.heap.size<=q.heap.size:=hb0.size;have HGO:=hide (show dx 101 (s.data.toList.drop p)=.ok ⟨101,0,[],ls⟩ (s.data.toList.drop r) from YY);clear hg HG F L;have hX1:=hX0.grown j (fun e=>o (Y9 e).symm);have hR1:=hR0.grown j (fun e=>ng0 (Y9 e).symm);have hG1:w.grownBy w2 (some g):=aj (ag hb0 _) j;clear j I C B J h;have k1:=hX1.cell 3;have f1:=hX1.frozen 3;simp only [Jx,Q1,Q2] at k1;have hX2:=hX1.set_ 3 (.slice A ls.length c);have hR2:=hR1.far (p:=⟨w.heap.size+1,3,none⟩) Z3 (.slice A ls.length c);have hr2:Rdr (w2.setCell ⟨w.heap.size+1,3,none⟩ (.slice A ls.length c)) g s r 0:=Blk.far hr1 (p:=⟨w.heap.size+1,3,none⟩) o (.slice A ls.length c);have hG2:w.grownBy (w2.setCell ⟨w.heap.size+1,3,none⟩ (.slice A ls.length c)) (some g):=ah hG1 (.inr Z3) _;have D:=u.set_ (p:=⟨w.heap.size+1,3,none⟩) XH (.slice A ls.length c);go_wp2_with fail;refine (HE.out _ _ _ hr2).mono ?_;rintro e w3 ⟨rfl,rfl⟩;go_upto_region 19 with fail;generalize w2.setCell ⟨w.heap.size+1,3,none⟩ (.slice A ls.length c)=w5 at hX2 hR2 hr2 hG2 D ⊢;have x0:=hX2.cell 0;have x1:=hX2.cell 1;have x2:=hX2.cell 2;have x3:=hX2.cell 3;have r0:=hR2.cell 0;have r1:=hR2.cell 1;have r2:=hR2.cell 2;have r3:=hR2.cell 3;have t0:=hR2.frozen 0;have t1:=hR2.frozen 1;have t2:=hR2.frozen 2;have t3:=hR2.frozen 3;simp at x0 x1 x2 x3 r0 r1 r2 r3;have hF:=gP hR2 (.int .u8 101) (.int .i64 0) (.string ⟨#[]⟩) (.slice A ls.length c);have hGF:=aJ hG2 (Y2 w.heap.size) (.int .u8 101) (.int .i64 0) (.string ⟨#[]⟩) (.slice A ls.length c);have hrF:=dM hr2 ng0 (.int .u8 101) (.int .i64 0) (.string ⟨#[]⟩) (.slice A ls.length c)
  have z:=(((D.set_ (p:=⟨w.heap.size,0,none⟩) Zl (.int .u8 101)).set_ (p:=⟨w.heap.size,1,none⟩) Zl (.int .i64 0)).set_ (p:=⟨w.heap.size,2,none⟩) Zl (.string ⟨#[]⟩)).set_ (p:=⟨w.heap.size,3,none⟩) Zl (.slice A ls.length c);clear k1 f1 hX1 hR1 hX2 hR2 hr1 hr2 hG1 hG2 HE hX0 hR0 hb0 hz0;go_wp2_with fail;generalize (((w5.setCell ⟨w.heap.size,0,none⟩ (.int .u8 101)).setCell ⟨w.heap.size,1,none⟩ (.int .i64 0)).setCell ⟨w.heap.size,2,none⟩ (.string ⟨#[]⟩)).setCell ⟨w.heap.size,3,none⟩ (.slice A ls.length c)=wF at hF hGF hrF z ⊢;have q0:=hF.cell 0;have q1:=hF.cell 1;have q2:=hF.cell 2;have q3:=hF.cell 3;simp at q0 q1 q2 q3;have HF:=hide (show jY 101 w g s p (.returned (.tuple #[.agg #[.int .u8 101,.int .i64 0,.string ⟨#[]⟩,.slice A ls.length c],.int .i64 0])) wF from .inl ⟨⟨101,0,[],ls⟩,.slice A ls.length c,r,HGO.out,rfl,z.mono Z0,hrF,K,hGF⟩);clear x0 x1 x2 x3 r0 r1 r2 r3 t0 t1 t2 t3 hF hGF hrF z;exact bodyPost_ret (v:=.tuple #[.agg #[.int .u8 101,.int .i64 0,.string ⟨#[]⟩,.slice A ls.length c],.int .i64 0]) Zf rfl HF.out
 ·have HGO:=hide (show dx 101 (s.data.toList.drop p)=.no x from YY)
  have hx1:((x:Int) == 0)=false:=Z6;have O:((x:Int) != 0)=true:=YU;have Hx0:=hide G;clear hg HG G;have hX1:=hX0.grown j (fun e=>o (Y9 e).symm);have hR1:=hR0.grown j (fun e=>ng0 (Y9 e).symm);have hG1:w.grownBy w2 (some g):=aj (ag hb0 _) j;clear j I C B J h;rcases P with rfl | rfl
  ·have k1:=hX1.cell 3
   have f1:=hX1.frozen 3;simp only [Jx,Q1,Q2] at k1;have hX2:=hX1.set_ 3 (.slice A n c);have hR2:=hR1.far (p:=⟨w.heap.size+1,3,none⟩) Z3 (.slice A n c);have hr2:Rdr (w2.setCell ⟨w.heap.size+1,3,none⟩ (.slice A n c)) g s r 0:=Blk.far hr1 (p:=⟨w.heap.size+1,3,none⟩) o (.slice A n c);have hG2:w.grownBy (w2.setCell ⟨w.heap.size+1,3,none⟩ (.slice A n c)) (some g):=ah hG1 (.inr Z3) _;go_wp2_with fail;refine (HE.out _ _ _ hr2).mono ?_;rintro e w3 ⟨rfl,rfl⟩;exact zz6b9
  ·have k1:=hX1.cell 3
   have f1:=hX1.frozen 3;simp only [Jx,Q1,Q2] at k1;have hX2:=hX1.set_ 3 (.slice A n c);have hR2:=hR1.far (p:=⟨w.heap.size+1,3,none⟩) Z3 (.slice A n c);have hr2:Rdr (w2.setCell ⟨w.heap.size+1,3,none⟩ (.slice A n c)) g s r x:=Blk.far hr1 (p:=⟨w.heap.size+1,3,none⟩) o (.slice A n c);have hG2:w.grownBy (w2.setCell ⟨w.heap.size+1,3,none⟩ (.slice A n c)) (some g):=ah hG1 (.inr Z3) _;go_wp2_with fail;refine (HE.out _ _ _ hr2).mono ?_;rintro e w3 ⟨rfl,rfl⟩;go_wp2_with fail;refine (HE.out _ _ _ hr2).mono ?_;rintro e R ⟨rfl,rfl⟩;exact zz6b9

theorem Qi (k:Nat) (j:kH w) (h:Rdr w g s p 0) (hs:s.size<=1000000) (hp:p<=s.size):Calls prog 92 #[.pointer (some ⟨g,0,none⟩),.int .u8 k] w (jY k w g s p):=by
 by_cases o:k=98
 ·subst o;exact RZ h hs hp
 by_cases q:k=117
 ·subst q;exact Qa h hs hp
 by_cases r:k=109
 ·subst r;exact Oh h hs hp
 by_cases u:k=110
 ·subst u;exact P5 j h hs hp
 by_cases v:k=99
 ·subst v;exact Q4 h hs hp
 by_cases z:k=101
 ·subst z;exact P9 j h hs hp
 exact JA k o q r u v z h hs hp
end
theorem M6 {g:Nat} (j:g<=i) (hi:i<S.length):S.drop g=(S.drop g).take (i - g)++S[i] :: S.drop (i+1):=by
 have h:=List.take_append_drop (i - g) (S.drop g);rw [Yr,show g+(i - g)=i by omega,List.drop_eq_getElem_cons hi] at h;exact h.symm
theorem O4 {g:Nat} (o:g<=i) (hi:i<S.length) (h:S[i]=44) (q:∀c∈(S.drop g).take (i - g),c≠44):aN (S.drop g)=(S.drop g).take (i - g) :: aN (S.drop (i+1)):=by
 have j:=M6 o hi;rw [h] at j
 conv=>lhs;rw [j]
 exact qw (fun p=>q 44 p rfl) _
theorem SG {g:Nat} (q:g<=i) (hi:i<S.length) (h:S[i]≠44) (p:∀c∈(S.drop g).take (i - g),c≠44):∀c∈(S.drop g).take (i+1 - g),c≠44:=by
 have o:i - g<(S.drop g).length:=by rw [Yu];omega
 rw [show i+1 - g=(i - g)+1 by omega,Yh o];intro c j;rcases Yy.1 j with j | j
 ·exact p c j
 ·simp only [Ym,List.getElem_drop] at j
  subst j;have:g+(i - g)=i:=Z0;simpa [this] using h
theorem O8 {g:Nat} (p:g<=S.length) (h:∀c∈(S.drop g).take (S.length - g),c≠44):aN (S.drop g)=[(S.drop g).take (S.length - g)]:=by
 have j:(S.drop g).take (S.length - g)=S.drop g:=Yp XJ;rw [j] at h ⊢;exact nN (fun o=>h 44 o rfl)
structure M5 (w:World) (S:List UInt8) (fr i:Nat) (A:Option Addr) (n c:Nat) (wr:World):Prop where
 bel:Below w.heap.size w wr
 st:∃ls:List (List UInt8),ls.length=n/\wr.ownsRow w.heap.size 9 1 (.slice A n c) n ((ls.map bs).map Value.string)/\n<=i /\
  (i<=S.length->fr<=i/\aN S=ls++aN (S.drop fr)/\∀c∈(S.drop fr).take (i - fr),c≠44)/\(S.length<i->aN S=ls)
section
variable {w : World}
theorem EL (s:ByteArray) (hs:s.size<=1000000):Calls prog 294 #[.string s] w (fun e w'=>∃v,e=.returned v/\bN w.heap.size w' v (aN s.data.toList)/\Below w.heap.size w w'):=by
 obtain ⟨iI,U,P,Q,R⟩:=eP uK;have ab:=hide (show M5 w s.data.toList 0 0 none 0 0 w from ⟨Below.refl _ _,[],rfl,World.ownsRow_nil _ _ _ _,Y2 _,fun _=>⟨Y2 _,rfl,Z3⟩,fun h=>Z0⟩);have Z:s.data.toList.length=s.size:=rfl;go_enter func294,ntmps294;go_wp2_with fail
 go_loopw [3,4,5] (fun vl vf vi wr=>∃(o i:Nat) (A:Option Addr) (n c:Nat),vl=.slice A n c/\vf=.int .i64 o/\vi=.int .i64 i/\i<=s.size+1/\Hid (M5 w s.data.toList o i A n c wr)) (fun _ _ vi _=>s.size+1 - (intOf vi).toNat)
 case atStart=>exact ⟨0,0,none,0,0,rfl,rfl,rfl,Z0,ab⟩
 case round =>
  obtain ⟨o,i,A,n,c,rfl,rfl,rfl,hi,L⟩:=hrel;obtain ⟨ls,r,j,X,D,q⟩:=L.out.st;have B:=L.out.bel;have aa:=B.size
  by_cases af:i<=s.size
  ·obtain ⟨T,z,u⟩:=D af
   have V:(i:Int)<=s.size:=Z0;have hx:=mR s o (i - o);rw [show o+(i - o)=i by omega] at hx;have HX:=hide hx
   by_cases I:i=s.size
   ·have S:((i:Int) == (s.size:Int))=true:=by rw [I];exact beq_self_eq_true _
    have O:=hide (show aN s.data.toList=ls++[(s.data.toList.drop o).take (i - o)] from by
     rw [z,I,<- Z,O8 Z0 (by rw [I,<- Z] at u;exact u)])
    have p:=hide j;have G:=hide (Y4 r X);clear z u D q L j r hx;subst I
    go_wp2_with (first
     | (at_builtin;refine aB _ rfl (.tmp 22) (.tmp 27) _ rfl w.heap.size 9 iI (.string ⟨#[]⟩) 1 16 underlying22 U P Q R rfl Z2 (.slice A n c) n _ rfl (p.out.alloc _) _ (some ⟨_,0,none⟩) 1 1 [.string (s.extract o s.size)] rfl (dJ (Blk.new _ _ _) rfl) Zd (by have:=G.out.2;unfold maxLen;omega) (by have:=G.out.2;omega) Zm ?_;intro v6 w6 g C Y;obtain ⟨A6,c6,rfl⟩:=ed g)
     | fail)
    have K:Below w.heap.size w w6:=(B.alloc aa (.cells #[.string (s.extract o s.size)] 9)).grown C Zm (fun k e=>(p.out.lt k e).1);refine ⟨⟨s.size+1,s.size+1,A6,n+1,c6,by first | rfl | (simp;done),by first | rfl | go_num,by first | rfl | go_num,Z0,hide ⟨K,ls++[(s.data.toList.drop o).take (s.size - o)],by rw [Ya,G.out.1];rfl,?_,by have:=G.out.2;omega,fun h=>Z0,fun _=>O.out⟩⟩,by simp [intOf]⟩;rw [List.map_append,List.map_append];rw [HX.out] at g;exact g
   ·have am:i<s.size:=by omega
    have S:((i:Int) == (s.size:Int))=false:=Z6;have F:i<s.data.toList.length:=am;have J:s.data.toList[i]'F=s[i]:=rfl
    by_cases N:s[i]=44
    ·have ad:((s[i].toNat:Int) == 44)=true:=by rw [N];rfl
     have O:=hide (show aN s.data.toList=(ls++[(s.data.toList.drop o).take (i - o)])++aN (s.data.toList.drop (i+1)) from by
      rw [z,O4 T F (J.trans N) u,Yk]
      rfl)
     have p:=hide j;have G:=hide (Y4 r X);clear z u D q L j r hx J N
     go_wp2_with (first
      | (at_builtin;refine aB _ rfl (.tmp 22) (.tmp 27) _ rfl w.heap.size 9 iI (.string ⟨#[]⟩) 1 16 underlying22 U P Q R rfl Z2 (.slice A n c) n _ rfl (p.out.alloc _) _ (some ⟨_,0,none⟩) 1 1 [.string (s.extract o i)] rfl (dJ (Blk.new _ _ _) rfl) Zd (by have:=G.out.2;unfold maxLen;omega) (by have:=G.out.2;omega) Zm ?_;intro v6 w6 g C Y;obtain ⟨A6,c6,rfl⟩:=ed g)
      | fail)
     have K:Below w.heap.size w w6:=(B.alloc aa (.cells #[.string (s.extract o i)] 9)).grown C Zm (fun k e=>(p.out.lt k e).1);refine ⟨⟨i+1,i+1,A6,n+1,c6,by first | rfl | (simp;done),by first | rfl | go_num,by first | rfl | go_num,Z0,hide ⟨K,ls++[(s.data.toList.drop o).take (i - o)],by rw [Ya,G.out.1];rfl,?_,by have:=G.out.2;omega,fun h=>⟨Y2 _,O.out,Z3⟩,fun h=>Z0⟩⟩,Zh⟩;rw [List.map_append,List.map_append];rw [HX.out] at g;exact g
    ·have h9:s[i].toNat≠44:=fun e=>N (UInt8.toNat_inj.1 XO)
     have ad:((s[i].toNat:Int) == 44)=false:=Z6;have ac:=hide (show M5 w s.data.toList o (i+1) A n c wr from ⟨B,ls,r,j,Z0,fun h=>⟨Z0,z,SG T F (fun e=>N (J.symm.trans e)) u⟩,fun h=>Z0⟩);clear z u D q L j r hx J N h9;go_wp2_with fail;exact ⟨⟨o,i+1,A,n,c,rfl,rfl,by first | rfl | go_num,Z0,ac⟩,Zh⟩
  ·have V:¬ (i:Int)<=s.size:=by omega
   have O:=hide (q Z0);have hN:=hide (ou j r.symm);clear D q L j;go_wp2_with fail;go_ret;exact ⟨_,rfl,by rw [O.out];exact hN.out,B⟩
theorem Bh (s:List UInt8):∀x∈aN s,x.length<=s.length:=by
 intro x j;have o:=Ye List.length (qG s)
 have key:∀l:List (List UInt8),x∈l->x.length<=(dV l).length:=by
  intro l
  induction l with
  | nil=>intro h;cases h
  | cons y l ih =>
   intro h
   by_cases g:l=[]
   ·subst g
    simp only [Ym] at h;subst h;exact Y2 _
   ·rw [fK _ g,Ya,Yv]
    rcases Yz.1 h with rfl | h
    ·omega
    ·have:=ih h
     omega
 have:=key _ j;omega
theorem DZ (s:ByteArray) (hs:s.size<=1000000):Calls prog 258 #[.string s] w (fun e w'=>∃v,e=.returned (.tuple #[v,.int .i64 (splitN s.data.toList).1])/\bN w.heap.size w' v (splitN s.data.toList).2/\Below w.heap.size w w'):=by
 by_cases r:s.size=0
 ·have j:s.data.toList=[]:=Yc r
  have E:=hide (show splitN s.data.toList=(0,[]) from by rw [j];rfl);have C:((s.size:Int) == 0)=true:=by rw [r];rfl
  clear j r;go_enter func258,ntmps258;go_wp2_with fail;go_ret2;exact ⟨.slice none 0 0,Zi,by rw [E.out];exact dO _ _ _,Below.refl _ _⟩
 ·have C:((s.size:Int) == 0)=false:=by rw [Y3];omega
  have g:s.data.toList≠[]:=fun e=>r (by have:=Ye List.length e;simpa using this)
  have J:=hide (EL (w:=w) s hs);have u:=hide (Bh s.data.toList);have K:s.data.toList.length=s.size:=rfl
  by_cases z:bJ (aN s.data.toList)=0
  ·have E:=hide (show splitN s.data.toList=(0,aN s.data.toList) from by unfold splitN;rw [Y5 g,Y6 z])
   clear g r;go_enter func258,ntmps258;go_wp2_with fail;refine J.out.mono ?_;rintro e w1 ⟨v,rfl,h,q⟩;obtain ⟨A,c,rfl,D,p⟩:=id h;have I:=hide h;have o:=hide (qo (w:=w1) h.txc.1 (fun y G=>by have:=u.out y G;omega));rw [z] at o;clear p h;generalize (aN s.data.toList).length=m at o D I ⊢;go_wp2_with (go_at_call 27;refine o.out.mono ?_;rintro e w2 ⟨rfl,rfl⟩);go_ret2;exact ⟨.slice A m c,Zi,by rw [E.out];exact I.out,q⟩
  ·have E:=hide (show splitN s.data.toList=(bJ (aN s.data.toList),[]) from by unfold splitN;rw [Y5 g,Y5 z])
   have B:((bJ (aN s.data.toList):Int) == 0)=false:=Z6;have F:((bJ (aN s.data.toList):Int) != 0)=true:=by simp [bne,B]
   clear g r;go_enter func258,ntmps258;go_wp2_with fail;refine J.out.mono ?_;rintro e w1 ⟨v,rfl,h,q⟩;obtain ⟨A,c,rfl,D,p⟩:=id h;have o:=hide (qo (w:=w1) h.txc.1 (fun y G=>by have:=u.out y G;omega));clear p h;generalize bJ (aN s.data.toList)=L at o B F z E;clear z;generalize (aN s.data.toList).length=m at o D;go_wp2_with (go_at_call 27;refine o.out.mono ?_;rintro e w2 ⟨rfl,rfl⟩);go_ret2;exact ⟨.slice none 0 0,Zi,by rw [E.out];exact dO _ _ _,q⟩
end
end Go.Proofs.YtnhekaepgpbijaaGreatDoor
