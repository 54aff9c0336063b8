/- Several of my texts in one: CfC, CfD. -/
import Derived.Test.YtnhekaepgpbijaaGreatDoorJCfBG
import Derived.Test.YtnhekaepgpbijaaGreatDoorJChnG
import Derived.Test.YtnhekaepgpbijaaGreatDoorJRPutG
set_option linter.unusedVariables false
set_option linter.unusedSimpArgs false
set_option maxHeartbeats 40000000
set_option maxRecDepth 100000
namespace Go.Proofs.YtnhekaepgpbijaaGreatDoor
open Go.RowKit Go.ChangeShapes Go.WideShapes Go.Sort
def fK:List UInt8:=[99,117,114,118,101,50,53,53,49,57,45,115,104,97,50,53,54]
def fV:List UInt8:=[101,99,100,104,45,115,104,97,50,45,110,105,115,116,112,50,53,54]
def gD:List UInt8:=[100,105,102,102,105,101,45,104,101,108,108,109,97,110,45,103,114,111,117,112,45,101,120,99,104,97,110,103,101,45,115,104,97,50,53,54]
def aY (s:List UInt8):Int:=if s=fK then 1 else if s=fV then 2 else if s=gD then 3 else 0
def fT:Nat→List UInt8
 | 0=>[107,101,120]
 | 1=>[104,111,115,116]
 | 2=>[101,110,99,45,99]
 | 3=>[101,110,99,45,115]
 | 4=>[109,97,99,45,99]
 | 5=>[109,97,99,45,115]
 | 6=>[99,111,109,112,45,99]
 | 7=>[99,111,109,112,45,115]
 | _=>[]
def jR (l:List (List UInt8)):Bool:=(List.range l.length).all fun i=>!decide (l.getD i []∈l.take i)
theorem tq {l:List (List UInt8)} {i:Nat} (hi:i<l.length) (h:l[i]∈l.take i):jR l=false:=by
 unfold jR;rw [List.all_eq_false];refine ⟨i,List.mem_range.2 hi,?_⟩;rw [List.getD_eq_getElem?_getD,List.getElem?_eq_getElem hi,Option.getD_some,decide_eq_true h];decide
theorem qM {l:List (List UInt8)} (h:∀i,(hi:i<l.length)→l[i] ∉ l.take i):jR l=true:=by
 unfold jR;rw [List.all_eq_true];intro i hi;have hi2:=List.mem_range.1 hi;rw [List.getD_eq_getElem?_getD,List.getElem?_eq_getElem hi2,Option.getD_some,decide_eq_false (h i hi2)];rfl
def df (l:List (List UInt8)):Int:=if l.length=0 then 6 else if 16≤l.length then 2 else if (jR l && l.all bf)=true then 0 else 3
def Dq (l:List (List UInt8)):Bool:=l.all fun x=>!decide (aY x=0)
def dC (l:List (List UInt8)) (kex:Bool):Int:=if df l≠0 then df l else if kex=true∧Dq l=false then 10 else 0
theorem sS {l:List (List UInt8)} (h:l.length=0):df l=6:=by unfold df;rw [if_pos h]
theorem rR {l:List (List UInt8)} (h:16≤l.length):df l=2:=by unfold df;rw [if_neg (by omega),if_pos h]
theorem mD {l:List (List UInt8)} (h0:l.length≠0) (h:¬ 16≤l.length) (h2:(jR l && l.all bf)=false):df l=3:=by unfold df;rw [if_neg h0,if_neg h,h2];rfl
theorem oC {l:List (List UInt8)} (h0:l.length≠0) (h:¬ 16≤l.length) (h2:(jR l && l.all bf)=true):df l=0:=by unfold df;rw [if_neg h0,if_neg h,if_pos h2]
theorem jO {l:List (List UInt8)} {x:Int} (kex:Bool) (h:df l=x) (hx:x≠0):dC l kex=x:=by unfold dC;rw [h,if_pos hx]
theorem FE {l:List (List UInt8)} (h:df l=0) (h2:Dq l=false):dC l true=10:=by unfold dC;rw [if_neg (by rw [h];decide),if_pos ⟨rfl,h2⟩]
theorem Gt {l:List (List UInt8)} (h:df l=0) (h2:Dq l=true) (kex:Bool):dC l kex=0:=by unfold dC;rw [if_neg (by rw [h];decide),if_neg (by rw [h2];rintro ⟨_,e⟩;cases e)]
theorem Gj {l:List (List UInt8)} (h:df l=0):dC l false=0:=by unfold dC;rw [if_neg (by rw [h];decide),if_neg (by rintro ⟨e,_⟩;cases e)]
theorem nU {α:Type} {p:α→Bool} {l:List α} {x:α} (hx:x∈l) (h:p x=false):l.all p=false:=by
 rw [List.all_eq_false];exact ⟨x,hx,by rw [h];decide⟩
theorem pq {l:List (List UInt8)} (h:¬ 16≤l.length):bF l=if l.all bf=true then 0 else 3:=by unfold bF;rw [if_neg (by omega)]
theorem uO {w:World} {A:Option Addr} {c:Nat} {ls:List (List UInt8)} (h:Txs w (.slice A ls.length c) ls) {k:Nat} (hk:k≤ls.length):Txs w (.slice A (ls.take k).length c) (ls.take k):=by
 obtain ⟨A',c',e,hS⟩:=h;rw [List.length_map] at e hS;obtain ⟨rfl,rfl⟩:A=A'∧c=c':=by injection e with e1 _ e3;exact ⟨e1,e3⟩
 refine ⟨A,c,by rw [List.length_map],?_,fun hn=>?_⟩
 ·simp
 ·rw [List.length_map,List.length_take] at hn
  obtain ⟨ad,e4,h1,h2,h3⟩:=hS.2 (by omega);refine ⟨ad,e4,h1,h2,fun j u hu=>h3 j u ?_⟩;rw [List.map_take,List.map_take,List.getElem?_take] at hu
  split at hu
  ·exact hu
  ·cases hu
structure fC (w:World):Prop where
 c0:w.cell? ⟨0,0,none⟩=some (.string ⟨#[]⟩)
 c1:w.cell? ⟨0,1,none⟩=some (.string ⟨#[99,117,114,118,101,50,53,53,49,57,45,115,104,97,50,53,54]⟩)
 c2:w.cell? ⟨0,2,none⟩=some (.string ⟨#[101,99,100,104,45,115,104,97,50,45,110,105,115,116,112,50,53,54]⟩)
 c3:w.cell? ⟨0,3,none⟩=some (.string ⟨#[100,105,102,102,105,101,45,104,101,108,108,109,97,110,45,103,114,111,117,112,45,101,120,99,104,97,110,103,101,45,115,104,97,50,53,54]⟩)
structure gJ (w:World):Prop where
 c0:w.cell? ⟨2,0,none⟩=some (.string ⟨#[107,101,120]⟩)
 c1:w.cell? ⟨2,1,none⟩=some (.string ⟨#[104,111,115,116]⟩)
 c2:w.cell? ⟨2,2,none⟩=some (.string ⟨#[101,110,99,45,99]⟩)
 c3:w.cell? ⟨2,3,none⟩=some (.string ⟨#[101,110,99,45,115]⟩)
 c4:w.cell? ⟨2,4,none⟩=some (.string ⟨#[109,97,99,45,99]⟩)
 c5:w.cell? ⟨2,5,none⟩=some (.string ⟨#[109,97,99,45,115]⟩)
 c6:w.cell? ⟨2,6,none⟩=some (.string ⟨#[99,111,109,112,45,99]⟩)
 c7:w.cell? ⟨2,7,none⟩=some (.string ⟨#[99,111,109,112,45,115]⟩)
theorem fC.below {w w':World} (h:fC w) (hb:Below w.heap.size w w'):fC w' :=
 ⟨(hb.cell (p:=⟨0,0,none⟩) (World.block_lt_of_cell? w _ h.c0)).trans h.c0,(hb.cell (p:=⟨0,1,none⟩) (World.block_lt_of_cell? w _ h.c1)).trans h.c1,(hb.cell (p:=⟨0,2,none⟩) (World.block_lt_of_cell? w _ h.c2)).trans h.c2,(hb.cell (p:=⟨0,3,none⟩) (World.block_lt_of_cell? w _ h.c3)).trans h.c3⟩
theorem gJ.below {w w':World} (h:gJ w) (hb:Below w.heap.size w w'):gJ w' :=
 ⟨(hb.cell (p:=⟨2,0,none⟩) (World.block_lt_of_cell? w _ h.c0)).trans h.c0,(hb.cell (p:=⟨2,1,none⟩) (World.block_lt_of_cell? w _ h.c1)).trans h.c1,(hb.cell (p:=⟨2,2,none⟩) (World.block_lt_of_cell? w _ h.c2)).trans h.c2,(hb.cell (p:=⟨2,3,none⟩) (World.block_lt_of_cell? w _ h.c3)).trans h.c3,(hb.cell (p:=⟨2,4,none⟩) (World.block_lt_of_cell? w _ h.c4)).trans h.c4,(hb.cell (p:=⟨2,5,none⟩) (World.block_lt_of_cell? w _ h.c5)).trans h.c5,(hb.cell (p:=⟨2,6,none⟩) (World.block_lt_of_cell? w _ h.c6)).trans h.c6,(hb.cell (p:=⟨2,7,none⟩) (World.block_lt_of_cell? w _ h.c7)).trans h.c7⟩
section
variable {w : World}
theorem AA {A:Option Addr} {c:Nat} {ls:List (List UInt8)} (h:Txs w (.slice A ls.length c) ls) (hc:ls.length≤c) (hl:ls.length≤1000000) :
  Calls Tryz.prog 287 #[.slice A ls.length c] w (fun e w'=>e=.returned (.bool (jR ls))∧w'=w):=by
 have HT:=hide (fun k (hk:k≤ls.length) s=>pg (uO h hk) (by rw [List.length_take];omega) s);obtain ⟨A',c',hv,hA⟩:=h.open_;obtain ⟨rfl,rfl⟩:A'=A∧c'=c:=by injection hv with e1 _ e2;exact ⟨e1.symm,e2.symm⟩
 clear hv h;go_enter Tryz.func287,Tryz.ntmps287;go_wp2_with fail
 go_loop [7] (fun i=>∃k:Nat,k≤ls.length∧i=.int .i64 k∧Hid (∀i,(hi:i<ls.length)→i<k→ls[i] ∉ ls.take i)) (fun i=>ls.length - (intOf i).toNat)
 case atStart=>exact ⟨0,Nat.zero_le _,rfl,hide (fun i hi h0=>absurd h0 (Nat.not_lt_zero _))⟩
 case round =>
  obtain ⟨k,hk,rfl,H⟩:=hrel
  by_cases hlt:k<ls.length
  ·obtain ⟨ad,rfl,had,hcl⟩:=hA k hlt
   have hkc:k≤c':=by omega
   have HC:=hide (HT.out k hk ls[k]);rw [List.length_take,Nat.min_eq_left hk] at HC
   by_cases hm:ls[k]∈ls.take k
   ·rw [decide_eq_true hm] at HC
    have E:=hide (tq hlt hm);clear hm H HT hA;go_wp2_with (first | (go_at_call 129;refine HC.out.mono ?_;rintro e w1 ⟨rfl,rfl⟩) | fail);go_ret;exact ⟨by rw [E.out];rfl,rfl⟩
   ·rw [decide_eq_false hm] at HC
    have H2:=hide (show ∀i,(hi:i<ls.length)→i<k+1→ls[i] ∉ ls.take i from fun i hi h2=>by
     by_cases e:i=k
     ·subst e;exact hm
     ·exact H.out i hi (by omega))
    clear hm H HT hA;go_wp2_with (first | (go_at_call 129;refine HC.out.mono ?_;rintro e w1 ⟨rfl,rfl⟩) | fail);go_round
    case rel=>exact ⟨k+1,hlt,by go_num,H2⟩
    case measure=>simp [intOf];omega
  ·have E:=hide (qM (l:=ls) (fun i hi=>H.out i hi (by omega)))
   clear H HT hA;go_wp2_with fail;go_ret;exact ⟨by rw [E.out];rfl,rfl⟩
theorem sH (s:List UInt8):(s=fK∧aY s=1)∨(s≠fK∧s=fV∧aY s=2)∨(s≠fK∧s≠fV∧s=gD∧aY s=3)∨(s≠fK∧s≠fV∧s≠gD∧aY s=0):=by
 unfold aY
 by_cases h1:s=fK
 ·exact .inl ⟨h1,if_pos h1⟩
 ·by_cases h2:s=fV
  ·exact .inr (.inl ⟨h1,h2,by rw [if_neg h1,if_pos h2]⟩)
  ·by_cases h3:s=gD
   ·exact .inr (.inr (.inl ⟨h1,h2,h3,by rw [if_neg h1,if_neg h2,if_pos h3]⟩))
   ·exact .inr (.inr (.inr ⟨h1,h2,h3,by rw [if_neg h1,if_neg h2,if_neg h3]⟩))
theorem wT {s:List UInt8} (h:s=fK):(([99,117,114,118,101,50,53,53,49,57,45,115,104,97,50,53,54]:List UInt8) == (bs s).toList)=true:=by rw [aN,h];exact beq_self_eq_true fK
theorem xZ {s:List UInt8} (h:s≠fK):(([99,117,114,118,101,50,53,53,49,57,45,115,104,97,50,53,54]:List UInt8) == (bs s).toList)=false:=by rw [aN,beq_eq_false_iff_ne];exact fun e=>h e.symm
theorem wZ {s:List UInt8} (h:s=fV):(([101,99,100,104,45,115,104,97,50,45,110,105,115,116,112,50,53,54]:List UInt8) == (bs s).toList)=true:=by rw [aN,h];exact beq_self_eq_true fV
theorem xS {s:List UInt8} (h:s≠fV):(([101,99,100,104,45,115,104,97,50,45,110,105,115,116,112,50,53,54]:List UInt8) == (bs s).toList)=false:=by rw [aN,beq_eq_false_iff_ne];exact fun e=>h e.symm
theorem xY {s:List UInt8} (h:s=gD):(([100,105,102,102,105,101,45,104,101,108,108,109,97,110,45,103,114,111,117,112,45,101,120,99,104,97,110,103,101,45,115,104,97,50,53,54]:List UInt8) == (bs s).toList)=true:=by rw [aN,h];exact beq_self_eq_true gD
theorem xV {s:List UInt8} (h:s≠gD):(([100,105,102,102,105,101,45,104,101,108,108,109,97,110,45,103,114,111,117,112,45,101,120,99,104,97,110,103,101,45,115,104,97,50,53,54]:List UInt8) == (bs s).toList)=false:=by rw [aN,beq_eq_false_iff_ne];exact fun e=>h e.symm
theorem zW {s:List UInt8} (h:s=fK):((⟨#[99,117,114,118,101,50,53,53,49,57,45,115,104,97,50,53,54]⟩:ByteArray).toList == (bs s).toList)=true:=sZ (by rw [h];rfl)
theorem BK {s:List UInt8} (h:s≠fK):((⟨#[99,117,114,118,101,50,53,53,49,57,45,115,104,97,50,53,54]⟩:ByteArray).toList == (bs s).toList)=false:=dU (fun e=>h (tT (show bs s=bs fK from e.symm)))
theorem Ai {s:List UInt8} (h:s=fV):((⟨#[101,99,100,104,45,115,104,97,50,45,110,105,115,116,112,50,53,54]⟩:ByteArray).toList == (bs s).toList)=true:=sZ (by rw [h];rfl)
theorem BS {s:List UInt8} (h:s≠fV):((⟨#[101,99,100,104,45,115,104,97,50,45,110,105,115,116,112,50,53,54]⟩:ByteArray).toList == (bs s).toList)=false:=dU (fun e=>h (tT (show bs s=bs fV from e.symm)))
theorem zY {s:List UInt8} (h:s=gD):((⟨#[100,105,102,102,105,101,45,104,101,108,108,109,97,110,45,103,114,111,117,112,45,101,120,99,104,97,110,103,101,45,115,104,97,50,53,54]⟩:ByteArray).toList == (bs s).toList)=true:=sZ (by rw [h];rfl)
theorem Cm {s:List UInt8} (h:s≠gD):((⟨#[100,105,102,102,105,101,45,104,101,108,108,109,97,110,45,103,114,111,117,112,45,101,120,99,104,97,110,103,101,45,115,104,97,50,53,54]⟩:ByteArray).toList == (bs s).toList)=false:=dU (fun e=>h (tT (show bs s=bs gD from e.symm)))
theorem Rb (a b c d:ByteArray) (w:World):(Instr.index 231 (.agg #[.string a,.string b,.string c,.string d]) (.int .i64 0)).run Tryz.prog w=.ok (.string a) w:=by kernel_rfl
theorem Rv (a b c d:ByteArray) (w:World):(Instr.index 231 (.agg #[.string a,.string b,.string c,.string d]) (.int .i64 1)).run Tryz.prog w=.ok (.string b) w:=by kernel_rfl
theorem RI (a b c d:ByteArray) (w:World):(Instr.index 231 (.agg #[.string a,.string b,.string c,.string d]) (.int .i64 2)).run Tryz.prog w=.ok (.string c) w:=by kernel_rfl
theorem Sg (a b c d:ByteArray) (w:World):(Instr.index 231 (.agg #[.string a,.string b,.string c,.string d]) (.int .i64 3)).run Tryz.prog w=.ok (.string d) w:=by kernel_rfl
theorem EQ (hM:fC w) (s:List UInt8):Calls Tryz.prog 304 #[.string (bs s)] w (fun e w'=>e=.returned (.int .i64 (aY s))∧w'=w):=by
 have g0:=hM.c0;have g1:=hM.c1;have g2:=hM.c2;have g3:=hM.c3;have HM:=hide (sH s);have i0:=Rb;have i1:=Rv;have i2:=RI;have i3:=Sg;clear hM;go_enter Tryz.func304,Tryz.ntmps304;go_wp2_with fail
 go_loop [6] (fun i=>∃k:Nat,k≤4∧i=.int .i64 k∧Hid ((2≤k→s≠fK)∧(3≤k→s≠fV)∧(4≤k→s≠gD))) (fun i=>4 - (intOf i).toNat)
 case atStart=>exact ⟨0,Nat.zero_le _,rfl,hide ⟨fun h=>absurd h (by decide),fun h=>absurd h (by decide),fun h=>absurd h (by decide)⟩⟩
 case round =>
  obtain ⟨k,hk,rfl,H⟩:=hrel
  match k,hk with
  | 0,_ =>
   have H2:=hide (show (2≤1→s≠fK)∧(3≤1→s≠fV)∧(4≤1→s≠gD) from ⟨fun h=>absurd h (by decide),fun h=>absurd h (by decide),fun h=>absurd h (by decide)⟩);clear H HM;go_wp2_with fail;go_round
   case rel=>exact ⟨1,by decide,by go_num,H2⟩
   case measure=>simp [intOf]
  | 1,_ =>
   by_cases hs:s=fK
   ·have E:=hide (show aY s=1 from by unfold aY;rw [if_pos hs])
    have e1:=zW hs;have e2:=wT hs;clear H HM hs;go_wp2_with fail;go_ret;exact ⟨by rw [E.out];rfl,rfl⟩
   ·have H2:=hide (show (2≤2→s≠fK)∧(3≤2→s≠fV)∧(4≤2→s≠gD) from ⟨fun _=>hs,fun h=>absurd h (by decide),fun h=>absurd h (by decide)⟩)
    have e1:=BK hs;have e2:=xZ hs;clear H hs;go_wp2_with fail;go_round
    case rel=>exact ⟨2,by decide,by go_num,H2⟩
    case measure=>simp [intOf]
  | 2,_ =>
   by_cases hs:s=fV
   ·have E:=hide (show aY s=2 from by unfold aY;rw [if_neg (H.out.1 (by decide)),if_pos hs])
    have e1:=Ai hs;have e2:=wZ hs;clear H HM hs;go_wp2_with fail;go_ret;exact ⟨by rw [E.out];rfl,rfl⟩
   ·have H2:=hide (show (2≤3→s≠fK)∧(3≤3→s≠fV)∧(4≤3→s≠gD) from ⟨fun _=>H.out.1 (by decide),fun _=>hs,fun h=>absurd h (by decide)⟩)
    have e1:=BS hs;have e2:=xS hs;clear H hs;go_wp2_with fail;go_round
    case rel=>exact ⟨3,by decide,by go_num,H2⟩
    case measure=>simp [intOf]
  | 3,_ =>
   by_cases hs:s=gD
   ·have E:=hide (show aY s=3 from by unfold aY;rw [if_neg (H.out.1 (by decide)),if_neg (H.out.2.1 (by decide)),if_pos hs])
    have e1:=zY hs;have e2:=xY hs;clear H HM hs;go_wp2_with fail;go_ret;exact ⟨by rw [E.out];rfl,rfl⟩
   ·have H2:=hide (show (2≤4→s≠fK)∧(3≤4→s≠fV)∧(4≤4→s≠gD) from ⟨fun _=>H.out.1 (by decide),fun _=>H.out.2.1 (by decide),fun _=>hs⟩)
    have e1:=Cm hs;have e2:=xV hs;clear H hs;go_wp2_with fail;go_round
    case rel=>exact ⟨4,by decide,by go_num,H2⟩
    case measure=>simp [intOf]
  | 4,_ =>
   have E:=hide (show aY s=0 from by
    rcases HM.out with ⟨e,_⟩ | ⟨_,e,_⟩ | ⟨_,_,e,_⟩ | ⟨_,_,_,e⟩
    ·exact absurd e (H.out.1 (by decide))
    ·exact absurd e (H.out.2.1 (by decide))
    ·exact absurd e (H.out.2.2 (by decide))
    ·exact e)
   clear H HM;go_wp2_with fail;go_ret;exact ⟨by rw [E.out];rfl,rfl⟩
theorem Ir (hW:gJ w) (i:Nat) (hi:i<8):Calls Tryz.prog 272 #[.int .i64 i] w (fun e w'=>e=.returned (.string (bs (fT i)))∧w'=w):=by
 match i,hi with
 | 0,_ =>
  have g:=hW.c0;clear hW;go_enter Tryz.func272,Tryz.ntmps272;go_wp2_with fail;go_ret;exact ⟨rfl,rfl⟩
 | 1,_ =>
  have g:=hW.c1;clear hW;go_enter Tryz.func272,Tryz.ntmps272;go_wp2_with fail;go_ret;exact ⟨rfl,rfl⟩
 | 2,_ =>
  have g:=hW.c2;clear hW;go_enter Tryz.func272,Tryz.ntmps272;go_wp2_with fail;go_ret;exact ⟨rfl,rfl⟩
 | 3,_ =>
  have g:=hW.c3;clear hW;go_enter Tryz.func272,Tryz.ntmps272;go_wp2_with fail;go_ret;exact ⟨rfl,rfl⟩
 | 4,_ =>
  have g:=hW.c4;clear hW;go_enter Tryz.func272,Tryz.ntmps272;go_wp2_with fail;go_ret;exact ⟨rfl,rfl⟩
 | 5,_ =>
  have g:=hW.c5;clear hW;go_enter Tryz.func272,Tryz.ntmps272;go_wp2_with fail;go_ret;exact ⟨rfl,rfl⟩
 | 6,_ =>
  have g:=hW.c6;clear hW;go_enter Tryz.func272,Tryz.ntmps272;go_wp2_with fail;go_ret;exact ⟨rfl,rfl⟩
 | 7,_ =>
  have g:=hW.c7;clear hW;go_enter Tryz.func272,Tryz.ntmps272;go_wp2_with fail;go_ret;exact ⟨rfl,rfl⟩
theorem Ei (w:World):Calls Tryz.prog 305 #[] w (fun e w'=>e=.returned (.slice (some ⟨w.heap.size,0,none⟩) 3 3)∧w'=w.alloc (.cells #[.string ⟨#[99,117,114,118,101,50,53,53,49,57,45,115,104,97,50,53,54]⟩,.string ⟨#[101,99,100,104,45,115,104,97,50,45,110,105,115,116,112,50,53,54]⟩,.string ⟨#[100,105,102,102,105,101,45,104,101,108,108,109,97,110,45,103,114,111,117,112,45,101,120,99,104,97,110,103,101,45,115,104,97,50,53,54]⟩] 9)):=by
 go_enter Tryz.func305,Tryz.ntmps305;go_wp2_with fail;go_ret;exact ⟨rfl,rfl⟩
theorem Az (s:List UInt8) (w:World):Calls Tryz.prog 276 #[.string (bs s)] w (fun e w'=>e=.returned (.int .i64 (aY s))∧Below w.heap.size w w'):=by
 have HM:=hide (sH s)
 obtain ⟨W,hW⟩:∃W,W=w.alloc (.cells #[.string ⟨#[99,117,114,118,101,50,53,53,49,57,45,115,104,97,50,53,54]⟩,.string ⟨#[101,99,100,104,45,115,104,97,50,45,110,105,115,116,112,50,53,54]⟩,.string ⟨#[100,105,102,102,105,101,45,104,101,108,108,109,97,110,45,103,114,111,117,112,45,101,120,99,104,97,110,103,101,45,115,104,97,50,53,54]⟩] 9):=⟨_,rfl⟩
 have hb:Below w.heap.size w W:=by rw [hW];exact aa
 have hB:Blk W w.heap.size 9 #[.string ⟨#[99,117,114,118,101,50,53,53,49,57,45,115,104,97,50,53,54]⟩,.string ⟨#[101,99,100,104,45,115,104,97,50,45,110,105,115,116,112,50,53,54]⟩,.string ⟨#[100,105,102,102,105,101,45,104,101,108,108,109,97,110,45,103,114,111,117,112,45,101,120,99,104,97,110,103,101,45,115,104,97,50,53,54]⟩]:=by rw [hW];exact Blk.new w _ _
 have g0:=hB.cell 0;have g1:=hB.cell 1;have g2:=hB.cell 2;simp at g0 g1 g2;have HB:=hide hb;have hlt:=hB.lt;have HN:=hide (show Calls Tryz.prog 305 #[] w (fun e w'=>e=.returned (.slice (some ⟨w.heap.size,0,none⟩) 3 3)∧w'=W) from by rw [hW];exact Ei w);clear hb hB hW;go_enter Tryz.func276,Tryz.ntmps276;go_wp2_with (first | (go_at_call 305;refine HN.out.mono ?_;rintro e w1 ⟨rfl,rfl⟩) | fail)
 go_loop [4] (fun i=>∃k:Nat,k≤3∧i=.int .i64 k∧Hid ((1≤k→s≠fK)∧(2≤k→s≠fV)∧(3≤k→s≠gD))) (fun i=>3 - (intOf i).toNat)
 case atStart=>exact ⟨0,Nat.zero_le _,rfl,hide ⟨fun h=>absurd h (by decide),fun h=>absurd h (by decide),fun h=>absurd h (by decide)⟩⟩
 case round =>
  obtain ⟨k,hk,rfl,H⟩:=hrel
  match k,hk with
  | 0,_ =>
   by_cases hs:s=fK
   ·have E:=hide (show aY s=1 from by unfold aY;rw [if_pos hs])
    have e1:=zW hs;have e2:=wT hs;clear H HM hs;go_wp2_with fail;go_ret;exact ⟨by rw [E.out];rfl,HB.out⟩
   ·have H2:=hide (show (1≤1→s≠fK)∧(2≤1→s≠fV)∧(3≤1→s≠gD) from ⟨fun _=>hs,fun h=>absurd h (by decide),fun h=>absurd h (by decide)⟩)
    have e1:=BK hs;have e2:=xZ hs;clear H hs;go_wp2_with fail;go_round
    case rel=>exact ⟨1,by decide,by go_num,H2⟩
    case measure=>simp [intOf]
  | 1,_ =>
   by_cases hs:s=fV
   ·have E:=hide (show aY s=2 from by unfold aY;rw [if_neg (H.out.1 (by decide)),if_pos hs])
    have e1:=Ai hs;have e2:=wZ hs;clear H HM hs;go_wp2_with fail;go_ret;exact ⟨by rw [E.out];rfl,HB.out⟩
   ·have H2:=hide (show (1≤2→s≠fK)∧(2≤2→s≠fV)∧(3≤2→s≠gD) from ⟨fun _=>H.out.1 (by decide),fun _=>hs,fun h=>absurd h (by decide)⟩)
    have e1:=BS hs;have e2:=xS hs;clear H hs;go_wp2_with fail;go_round
    case rel=>exact ⟨2,by decide,by go_num,H2⟩
    case measure=>simp [intOf]
  | 2,_ =>
   by_cases hs:s=gD
   ·have E:=hide (show aY s=3 from by unfold aY;rw [if_neg (H.out.1 (by decide)),if_neg (H.out.2.1 (by decide)),if_pos hs])
    have e1:=zY hs;have e2:=xY hs;clear H HM hs;go_wp2_with fail;go_ret;exact ⟨by rw [E.out];rfl,HB.out⟩
   ·have H2:=hide (show (1≤3→s≠fK)∧(2≤3→s≠fV)∧(3≤3→s≠gD) from ⟨fun _=>H.out.1 (by decide),fun _=>H.out.2.1 (by decide),fun _=>hs⟩)
    have e1:=Cm hs;have e2:=xV hs;clear H hs;go_wp2_with fail;go_round
    case rel=>exact ⟨3,by decide,by go_num,H2⟩
    case measure=>simp [intOf]
  | 3,_ =>
   have E:=hide (show aY s=0 from by
    rcases HM.out with ⟨e,_⟩ | ⟨_,e,_⟩ | ⟨_,_,e,_⟩ | ⟨_,_,_,e⟩
    ·exact absurd e (H.out.1 (by decide))
    ·exact absurd e (H.out.2.1 (by decide))
    ·exact absurd e (H.out.2.2 (by decide))
    ·exact e)
   clear H HM;go_wp2_with fail;go_ret;exact ⟨by rw [E.out];rfl,HB.out⟩
theorem xC (i:Nat) (hi:i<8) (w:World):Calls Tryz.prog 151 #[.int .i64 i] w (fun e w'=>e=.returned (.string (bs (fT i)))∧Below w.heap.size w w'):=by
 obtain ⟨W,hW⟩:∃W,W=w.alloc (.cells #[.string ⟨#[107,101,120]⟩,.string ⟨#[104,111,115,116]⟩,.string ⟨#[101,110,99,45,99]⟩,.string ⟨#[101,110,99,45,115]⟩,.string ⟨#[109,97,99,45,99]⟩,.string ⟨#[109,97,99,45,115]⟩,.string ⟨#[99,111,109,112,45,99]⟩,.string ⟨#[99,111,109,112,45,115]⟩] 9):=⟨_,rfl⟩
 have hb:Below w.heap.size w W:=by rw [hW];exact aa
 have hB:Blk W w.heap.size 9 #[.string ⟨#[107,101,120]⟩,.string ⟨#[104,111,115,116]⟩,.string ⟨#[101,110,99,45,99]⟩,.string ⟨#[101,110,99,45,115]⟩,.string ⟨#[109,97,99,45,99]⟩,.string ⟨#[109,97,99,45,115]⟩,.string ⟨#[99,111,109,112,45,99]⟩,.string ⟨#[99,111,109,112,45,115]⟩]:=by rw [hW];exact Blk.new w _ _
 have g0:=hB.cell 0;have g1:=hB.cell 1;have g2:=hB.cell 2;have g3:=hB.cell 3;have g4:=hB.cell 4;have g5:=hB.cell 5;have g6:=hB.cell 6;have g7:=hB.cell 7;simp at g0 g1 g2 g3 g4 g5 g6 g7;have HB:=hide hb;have hlt:=hB.lt;clear hb hB
 match i,hi with
 | 0,_ =>
  go_enter Tryz.func151,Tryz.ntmps151;go_upto_region 2 with fail;rw [←hW];clear hW;go_wp2_with fail;go_ret;exact ⟨rfl,HB.out⟩
 | 1,_ =>
  go_enter Tryz.func151,Tryz.ntmps151;go_upto_region 2 with fail;rw [←hW];clear hW;go_wp2_with fail;go_ret;exact ⟨rfl,HB.out⟩
 | 2,_ =>
  go_enter Tryz.func151,Tryz.ntmps151;go_upto_region 2 with fail;rw [←hW];clear hW;go_wp2_with fail;go_ret;exact ⟨rfl,HB.out⟩
 | 3,_ =>
  go_enter Tryz.func151,Tryz.ntmps151;go_upto_region 2 with fail;rw [←hW];clear hW;go_wp2_with fail;go_ret;exact ⟨rfl,HB.out⟩
 | 4,_ =>
  go_enter Tryz.func151,Tryz.ntmps151;go_upto_region 2 with fail;rw [←hW];clear hW;go_wp2_with fail;go_ret;exact ⟨rfl,HB.out⟩
 | 5,_ =>
  go_enter Tryz.func151,Tryz.ntmps151;go_upto_region 2 with fail;rw [←hW];clear hW;go_wp2_with fail;go_ret;exact ⟨rfl,HB.out⟩
 | 6,_ =>
  go_enter Tryz.func151,Tryz.ntmps151;go_upto_region 2 with fail;rw [←hW];clear hW;go_wp2_with fail;go_ret;exact ⟨rfl,HB.out⟩
 | 7,_ =>
  go_enter Tryz.func151,Tryz.ntmps151;go_upto_region 2 with fail;rw [←hW];clear hW;go_wp2_with fail;go_ret;exact ⟨rfl,HB.out⟩
end
theorem quiet_of {P:Program} {f:FuncId} {args:Array Value} {w:World} {n:Nat} {v:Value} (h:Calls P f args (w.drewN n) fun e w'=>e=.returned v∧w'=w.drewN n) :
  Calls P f args (w.drewN n) fun e w'=>e=.returned v∧∃m,w'=w.drewN m:=h.mono fun _ _ h=>⟨h.1,n,h.2⟩
theorem QT {l:List (List UInt8)} (h:¬ 16≤l.length) (h2:l.all bf=true):bF l=0:=by rw [pq h,if_pos h2]
theorem Q5 {l:List (List UInt8)} (h:¬ 16≤l.length) (h2:l.all bf=false):bF l=3:=by rw [pq h,h2];rfl
section
variable {w : World}
theorem KZ {A:Option Addr} {c:Nat} {ls:List (List UInt8)} (h:Txs w (.slice A ls.length c) ls) (hc:ls.length≤c) (hl:ls.length≤1000000) (hy:∀y∈ls,y.length≤1000000) :
  Calls Tryz.prog 248 #[.slice A ls.length c] w (fun e w'=>e=.returned (.int .i64 (df ls))∧Below w.heap.size w w'):=by
 have HO:=hide (AA h hc hl);have HJ:=hide (p8 h hc (fun y hm=>Nat.le_trans (hy y hm) (by decide)))
 by_cases h0:ls.length=0
 ·have e0:((ls.length:Int) == 0)=true:=by rw [h0];rfl
  have E:=hide (show df ls=6 from sS h0);clear h0 h hc hl hy HO HJ;go_enter Tryz.func248,Tryz.ntmps248;go_wp2_with fail;go_ret;exact ⟨by rw [E.out];rfl,Below.refl _ _⟩
 ·have e0:((ls.length:Int) == 0)=false:=by rw [beq_eq_false_iff_ne];omega
  by_cases h16:16≤ls.length
  ·have e16:(16:Int)≤ls.length:=by omega
   have E:=hide (show df ls=2 from rR h16);clear h0 h16 h hc hl hy HO HJ;go_enter Tryz.func248,Tryz.ntmps248;go_wp2_with fail;go_ret;exact ⟨by rw [E.out];rfl,Below.refl _ _⟩
  ·have e16:¬ (16:Int)≤ls.length:=by omega
   cases ho:jR ls with
   | false =>
    rw [ho] at HO;have E:=hide (show df ls=3 from mD h0 h16 (by rw [ho];rfl));clear h0 h16 h hc hl hy HJ ho;go_enter Tryz.func248,Tryz.ntmps248;go_wp2_with (first | (go_at_call 287;refine HO.out.mono ?_;rintro e w1 ⟨rfl,rfl⟩) | fail);go_ret;exact ⟨by rw [E.out];rfl,Below.refl _ _⟩
   | true =>
    rw [ho] at HO
    cases hr:ls.all bf with
    | false =>
     rw [Q5 h16 hr] at HJ;have E:=hide (show df ls=3 from mD h0 h16 (by rw [ho,hr];rfl));clear h0 h16 h hc hl hy ho hr;go_enter Tryz.func248,Tryz.ntmps248;go_wp2_with (first | (go_at_call 287;refine HO.out.mono ?_;rintro e w1 ⟨rfl,rfl⟩) | (go_at_call 202;refine HJ.out.mono ?_;rintro e w2 ⟨rfl,hb2⟩) | fail);go_ret;exact ⟨by rw [E.out];rfl,hb2⟩
    | true =>
     rw [QT h16 hr] at HJ;have hz:df ls=0:=oC h0 h16 (by rw [ho,hr];rfl);have E:=hide hz;clear h0 h16 h hc hl hy ho hr hz;go_enter Tryz.func248,Tryz.ntmps248;go_wp2_with (first | (go_at_call 287;refine HO.out.mono ?_;rintro e w1 ⟨rfl,rfl⟩) | (go_at_call 202;refine HJ.out.mono ?_;rintro e w2 ⟨rfl,hb2⟩) | fail);go_ret;exact ⟨by rw [E.out];rfl,hb2⟩
theorem C9 {A:Option Addr} {c:Nat} {ls:List (List UInt8)} (hM:fC w) (h:Txs w (.slice A ls.length c) ls) (hc:ls.length≤c) (hl:ls.length≤1000000) (hy:∀y∈ls,y.length≤1000000) (kex:Bool) :
  Calls Tryz.prog 273 #[.slice A ls.length c,.bool kex] w (fun e w'=>e=.returned (.int .i64 (dC ls kex))∧Below w.heap.size w w'):=by
 have HO:=hide (AA h hc hl);have HJ:=hide (p8 h hc (fun y hm=>Nat.le_trans (hy y hm) (by decide)))
 by_cases h0:ls.length=0
 ·have e0:((ls.length:Int) == 0)=true:=by rw [h0];rfl
  have E:=hide (show dC ls kex=6 from jO kex (sS h0) (by decide));clear h0 h hc hl hy HO HJ;go_enter Tryz.func273,Tryz.ntmps273;go_wp2_with fail;go_ret;exact ⟨by rw [E.out];rfl,Below.refl _ _⟩
 ·have e0:((ls.length:Int) == 0)=false:=by rw [beq_eq_false_iff_ne];omega
  by_cases h16:16≤ls.length
  ·have e16:(16:Int)≤ls.length:=by omega
   have E:=hide (show dC ls kex=2 from jO kex (rR h16) (by decide));clear h0 h16 h hc hl hy HO HJ;go_enter Tryz.func273,Tryz.ntmps273;go_wp2_with fail;go_ret;exact ⟨by rw [E.out];rfl,Below.refl _ _⟩
  ·have e16:¬ (16:Int)≤ls.length:=by omega
   cases ho:jR ls with
   | false =>
    rw [ho] at HO;have E:=hide (show dC ls kex=3 from jO kex (mD h0 h16 (by rw [ho];rfl)) (by decide));clear h0 h16 h hc hl hy HJ ho;go_enter Tryz.func273,Tryz.ntmps273;go_wp2_with (first | (go_at_call 287;refine HO.out.mono ?_;rintro e w1 ⟨rfl,rfl⟩) | fail);go_ret;exact ⟨by rw [E.out];rfl,Below.refl _ _⟩
   | true =>
    rw [ho] at HO
    cases hr:ls.all bf with
    | false =>
     rw [Q5 h16 hr] at HJ;have E:=hide (show dC ls kex=3 from jO kex (mD h0 h16 (by rw [ho,hr];rfl)) (by decide));clear h0 h16 h hc hl hy ho hr;go_enter Tryz.func273,Tryz.ntmps273;go_wp2_with (first | (go_at_call 287;refine HO.out.mono ?_;rintro e w1 ⟨rfl,rfl⟩) | (go_at_call 202;refine HJ.out.mono ?_;rintro e w2 ⟨rfl,hb2⟩) | fail);go_ret;exact ⟨by rw [E.out];rfl,hb2⟩
    | true =>
     rw [QT h16 hr] at HJ;have hz:df ls=0:=oC h0 h16 (by rw [ho,hr];rfl);obtain ⟨A',c',hv,hA⟩:=h.open_;obtain ⟨rfl,rfl⟩:A'=A∧c'=c:=by injection hv with e1 _ e2;exact ⟨e1.symm,e2.symm⟩
     have HMe:=hide (fun (W:World) (hb:Below w.heap.size w W) s=>EQ (hM.below hb) s);have HA:=hide hA;clear h0 h16 h hc hy ho hr hv hM hA;have Hz:=hide hz;clear hz;go_enter Tryz.func273,Tryz.ntmps273;go_wp2_with (first | (go_at_call 287;refine HO.out.mono ?_;rintro e w1 ⟨rfl,rfl⟩) | (go_at_call 202;refine HJ.out.mono ?_;rintro e w2 ⟨rfl,hb2⟩) | fail);have HB2:=hide hb2;clear hb2 HO HJ
     go_loop [31] (fun i=>∃k:Nat,k≤ls.length∧i=.int .i64 k∧Hid (kex=true→∀x∈ls.take k,aY x≠0)) (fun i=>ls.length - (intOf i).toNat)
     case atStart=>exact ⟨0,Nat.zero_le _,rfl,hide (by simp)⟩
     case round =>
      obtain ⟨k,hk,rfl,H⟩:=hrel
      by_cases hlt:k<ls.length
      ·obtain ⟨ad,rfl,had,hcl⟩:=HA.out k hlt
       have hcl2:=(o8 HB2.out had hcl)
       have HC:=hide (HMe.out _ HB2.out ls[k])
       cases kex with
       | false =>
        have H2:=hide (show false=true→∀x∈ls.take (k+1),aY x≠0 from fun e=>by cases e);clear H HC HMe HA;go_wp2_with fail;go_round
        case rel=>exact ⟨k+1,hlt,by go_num,H2⟩
        case measure=>simp [intOf];omega
       | true =>
        by_cases hm:aY ls[k]=0
        ·rw [hm] at HC
         have E:=hide (FE Hz.out (nU (List.getElem_mem hlt) (by rw [decide_eq_true hm];rfl)));clear H hm HMe HA;go_wp2_with (first | (go_at_call 304;refine HC.out.mono ?_;rintro e w3 ⟨rfl,rfl⟩) | fail);go_ret;exact ⟨by rw [E.out];rfl,HB2.out⟩
        ·have hm2:(aY ls[k] == 0)=false:=by rw [beq_eq_false_iff_ne];exact hm
         have H2:=hide (show true=true→∀x∈ls.take (k+1),aY x≠0 from fun e x hx=>by
          rw [List.take_succ_eq_append_getElem hlt] at hx;rcases List.mem_append.1 hx with hx | hx
          ·exact H.out rfl x hx
          ·simp only [List.mem_singleton] at hx
           subst hx
           exact hm)
         clear H HMe HA hm;go_wp2_with (first | (go_at_call 304;refine HC.out.mono ?_;rintro e w3 ⟨rfl,rfl⟩) | fail);go_round
         case rel=>exact ⟨k+1,hlt,by go_num,H2⟩
         case measure=>simp [intOf];omega
      ·have E:=hide (show dC ls kex=0 from by
        cases kex with
        | false=>exact Gj Hz.out
        | true =>
         have hkw:Dq ls=true:=by
          unfold Dq;rw [List.all_eq_true];intro x hx;rw [decide_eq_false (H.out rfl x (by rw [List.take_of_length_le (by omega)];exact hx))];rfl
         exact Gt Hz.out hkw true)
       clear H HMe HA;go_wp2_with fail;go_ret;exact ⟨by rw [E.out];rfl,HB2.out⟩
theorem wm {A:Option Addr} {c:Nat} {ls:List (List UInt8)} (h:Txs w (.slice A ls.length c) ls) (hc:ls.length≤c) (hl:ls.length≤1000000) (hy:∀y∈ls,y.length≤1000000) :
  Calls Tryz.prog 230 #[.slice A ls.length c] w (fun e w'=>e=.returned (.int .i64 (df ls))∧Below w.heap.size w w'):=by
 have HH:=hide (fun (W:World) (hb:Below w.heap.size w W) k (hk:k≤ls.length) s=>sO (uO (h.below hb) hk) (by rw [List.length_take];omega) s)
 by_cases h0:ls.length=0
 ·have e0:((ls.length:Int) == 0)=true:=by rw [h0];rfl
  have E:=hide (show df ls=6 from sS h0);clear h0 h hc hl hy HH;go_enter Tryz.func230,Tryz.ntmps230;go_wp2_with fail;go_ret;exact ⟨by rw [E.out];rfl,Below.refl _ _⟩
 ·have e0:((ls.length:Int) == 0)=false:=by rw [beq_eq_false_iff_ne];omega
  by_cases h16:16≤ls.length
  ·have e16:(15:Int)<ls.length:=by omega
   have E:=hide (show df ls=2 from rR h16);clear h0 h16 h hc hl hy HH;go_enter Tryz.func230,Tryz.ntmps230;go_wp2_with fail;go_ret;exact ⟨by rw [E.out];rfl,Below.refl _ _⟩
  ·have e16:¬ (15:Int)<ls.length:=by omega
   have HR:=hide (fun (W:World) k (hk:k<ls.length)=>nJ (bs ls[k]) (Nat.le_trans (hy _ (List.getElem_mem hk)) (by decide)) W);obtain ⟨A',c',hv,hA⟩:=h.open_;obtain ⟨rfl,rfl⟩:A'=A∧c'=c:=by injection hv with e1 _ e2;exact ⟨e1.symm,e2.symm⟩
   have HA:=hide hA;have Hno:=hide (fun (x:(jR ls && ls.all bf)=false)=>mD h0 h16 x);have Hyes:=hide (fun (x:(jR ls && ls.all bf)=true)=>oC h0 h16 x);clear h0 h16 h hy hv hA;go_enter Tryz.func230,Tryz.ntmps230;go_wp2_with fail
   go_loopw [3] (fun i wr=>(∃k:Nat,k≤ls.length∧i=.int .i64 k∧Hid ((∀x∈ls.take k,bf x=true)∧∀j,(hj:j<ls.length)→j<k→ls[j] ∉ ls.take j))∧Hid (Below w.heap.size w wr)) (fun i _=>ls.length - (intOf i).toNat)
   case atStart=>exact ⟨⟨0,Nat.zero_le _,rfl,hide ⟨by simp,fun i hi h0=>absurd h0 (Nat.not_lt_zero _)⟩⟩,hide (Below.refl _ _)⟩
   case round =>
    obtain ⟨⟨k,hk,rfl,H⟩,HB⟩:=hrel
    by_cases hlt:k<ls.length
    ·have hltI:(k:Int)<ls.length:=by omega
     obtain ⟨ad,rfl,had,hcl⟩:=HA.out k hlt;have hkc:k≤c':=by omega
     have hcl2:=(o8 HB.out had hcl)
     cases hr:bf ls[k] with
     | false =>
      have HR2:=hide (show ∀n,Calls Tryz.prog 70 #[.string (bs ls[k])] (wr.drewN n) (fun e w'=>e=.returned (.bool false)∧∃m,w'=wr.drewN m) from fun n=>quiet_of (by have:=HR.out (wr.drewN n) k hlt;rwa [aU,hr] at this));have hz:df ls=3:=Hno.out (by rw [nU (List.getElem_mem hlt) hr,Bool.and_false]);have E:=hide hz;clear hr H HH HR HA hz Hno Hyes hcl;generalize ls[k]=y at HR2 hcl2;go_upto_region 8 with fail;go_quiet ((go_at_call 70;exact HR2.out _));go_wp2_with fail;go_ret;exact ⟨by rw [E.out];rfl,below_drewN HB.out _⟩
     | true =>
      have HR2:=hide (show ∀n,Calls Tryz.prog 70 #[.string (bs ls[k])] (wr.drewN n) (fun e w'=>e=.returned (.bool true)∧∃m,w'=wr.drewN m) from fun n=>quiet_of (by have:=HR.out (wr.drewN n) k hlt;rwa [aU,hr] at this))
      by_cases hm:ls[k]∈ls.take k
      ·have HC:=hide (show ∀n,Calls Tryz.prog 78 #[.slice (some ad) k c',.string (bs ls[k])] (wr.drewN n) (fun e w'=>e=.returned (.bool true)∧∃m,w'=wr.drewN m) from fun n=>quiet_of (by have:=HH.out (wr.drewN n) (below_drewN HB.out n) k hk ls[k];rwa [List.length_take,Nat.min_eq_left hk,decide_eq_true hm] at this))
       have hz:df ls=3:=Hno.out (by rw [tq hlt hm,Bool.false_and]);have E:=hide hz;clear hm hr H HH HR HA hz Hno Hyes hcl;generalize ls[k]=y at HR2 HC hcl2;go_upto_region 8 with fail;go_quiet (first | (go_at_call 70;exact HR2.out _) | (go_at_call 78;exact HC.out _));go_wp2_with fail;go_ret;exact ⟨by rw [E.out];rfl,below_drewN HB.out _⟩
      ·have HC:=hide (show ∀n,Calls Tryz.prog 78 #[.slice (some ad) k c',.string (bs ls[k])] (wr.drewN n) (fun e w'=>e=.returned (.bool false)∧∃m,w'=wr.drewN m) from fun n=>quiet_of (by have:=HH.out (wr.drewN n) (below_drewN HB.out n) k hk ls[k];rwa [List.length_take,Nat.min_eq_left hk,decide_eq_false hm] at this))
       have H2:=hide (show (∀x∈ls.take (k+1),bf x=true)∧∀i,(hi:i<ls.length)→i<k+1→ls[i] ∉ ls.take i from ⟨fun x hx=>by
        rw [List.take_succ_eq_append_getElem hlt] at hx;rcases List.mem_append.1 hx with hx | hx
        ·exact H.out.1 x hx
        ·simp only [List.mem_singleton] at hx
         subst hx
         exact hr,fun i hi h2=>by
        by_cases e:i=k
        ·subst e;exact hm
        ·exact H.out.2 i hi (by omega)⟩)
       clear hm hr H HH HR HA Hno Hyes hcl;generalize ls[k]=y at HR2 HC hcl2;go_upto_region 8 with fail;go_quiet (first | (go_at_call 70;exact HR2.out _) | (go_at_call 78;exact HC.out _));go_wp2_with fail;go_round
       case rel=>exact ⟨⟨k+1,hlt,by go_num,H2⟩,hide (below_drewN HB.out _)⟩
       case measure=>simp [intOf];omega
    ·have hltI:¬ (k:Int)<ls.length:=by omega
     have hz:df ls=0:=Hyes.out (by
      rw [qM (l:=ls) (fun i hi=>H.out.2 i hi (by omega)),Bool.true_and,List.all_eq_true]
      exact fun x hx=>H.out.1 x (by rw [List.take_of_length_le (by omega)];exact hx))
     have E:=hide hz;clear H HH HR HA hz Hno Hyes;go_wp2_with fail;go_ret;exact ⟨by rw [E.out];rfl,HB.out⟩
theorem CV {A:Option Addr} {c:Nat} {ls:List (List UInt8)} (h:Txs w (.slice A ls.length c) ls) (hc:ls.length≤c) (hl:ls.length≤1000000) (hy:∀y∈ls,y.length≤1000000) (kex:Bool) :
  Calls Tryz.prog 228 #[.slice A ls.length c,.bool kex] w (fun e w'=>e=.returned (.int .i64 (dC ls kex))∧Below w.heap.size w w'):=by
 have HH:=hide (fun (W:World) (hb:Below w.heap.size w W) k (hk:k≤ls.length) s=>sO (uO (h.below hb) hk) (by rw [List.length_take];omega) s)
 by_cases h0:ls.length=0
 ·have e0:((ls.length:Int) == 0)=true:=by rw [h0];rfl
  have E:=hide (show dC ls kex=6 from jO kex (sS h0) (by decide));clear h0 h hc hl hy HH;go_enter Tryz.func228,Tryz.ntmps228;go_wp2_with fail;go_ret;exact ⟨by rw [E.out];rfl,Below.refl _ _⟩
 ·have e0:((ls.length:Int) == 0)=false:=by rw [beq_eq_false_iff_ne];omega
  by_cases h16:16≤ls.length
  ·have e16:(15:Int)<ls.length:=by omega
   have E:=hide (show dC ls kex=2 from jO kex (rR h16) (by decide));clear h0 h16 h hc hl hy HH;go_enter Tryz.func228,Tryz.ntmps228;go_wp2_with fail;go_ret;exact ⟨by rw [E.out];rfl,Below.refl _ _⟩
  ·have e16:¬ (15:Int)<ls.length:=by omega
   have HR:=hide (fun (W:World) k (hk:k<ls.length)=>nJ (bs ls[k]) (Nat.le_trans (hy _ (List.getElem_mem hk)) (by decide)) W);obtain ⟨A',c',hv,hA⟩:=h.open_;obtain ⟨rfl,rfl⟩:A'=A∧c'=c:=by injection hv with e1 _ e2;exact ⟨e1.symm,e2.symm⟩
   have HA:=hide hA;have Hno:=hide (fun (x:(jR ls && ls.all bf)=false)=>mD h0 h16 x);have Hyes:=hide (fun (x:(jR ls && ls.all bf)=true)=>oC h0 h16 x);clear h0 h16 h hy hv hA;go_enter Tryz.func228,Tryz.ntmps228;go_wp2_with fail
   go_loopw [5] (fun i wr=>(∃k:Nat,k≤ls.length∧i=.int .i64 k∧Hid ((∀x∈ls.take k,bf x=true)∧∀j,(hj:j<ls.length)→j<k→ls[j] ∉ ls.take j))∧Hid (Below w.heap.size w wr)) (fun i _=>ls.length - (intOf i).toNat)
   case atStart=>exact ⟨⟨0,Nat.zero_le _,rfl,hide ⟨by simp,fun i hi h0=>absurd h0 (Nat.not_lt_zero _)⟩⟩,hide (Below.refl _ _)⟩
   case round =>
    obtain ⟨⟨k,hk,rfl,H⟩,HB⟩:=hrel
    by_cases hlt:k<ls.length
    ·have hltI:(k:Int)<ls.length:=by omega
     obtain ⟨ad,rfl,had,hcl⟩:=HA.out k hlt;have hkc:k≤c':=by omega
     have hcl2:=(o8 HB.out had hcl)
     cases hr:bf ls[k] with
     | false =>
      have HR2:=hide (show ∀n,Calls Tryz.prog 70 #[.string (bs ls[k])] (wr.drewN n) (fun e w'=>e=.returned (.bool false)∧∃m,w'=wr.drewN m) from fun n=>quiet_of (by have:=HR.out (wr.drewN n) k hlt;rwa [aU,hr] at this));have hz:df ls=3:=Hno.out (by rw [nU (List.getElem_mem hlt) hr,Bool.and_false]);have E:=hide (jO kex hz (by decide));clear hr H HH HR HA hz Hno Hyes hcl;generalize ls[k]=y at HR2 hcl2;go_upto_region 8 with fail;go_quiet ((go_at_call 70;exact HR2.out _));go_wp2_with fail;go_ret;exact ⟨by rw [E.out];rfl,below_drewN HB.out _⟩
     | true =>
      have HR2:=hide (show ∀n,Calls Tryz.prog 70 #[.string (bs ls[k])] (wr.drewN n) (fun e w'=>e=.returned (.bool true)∧∃m,w'=wr.drewN m) from fun n=>quiet_of (by have:=HR.out (wr.drewN n) k hlt;rwa [aU,hr] at this))
      by_cases hm:ls[k]∈ls.take k
      ·have HC:=hide (show ∀n,Calls Tryz.prog 78 #[.slice (some ad) k c',.string (bs ls[k])] (wr.drewN n) (fun e w'=>e=.returned (.bool true)∧∃m,w'=wr.drewN m) from fun n=>quiet_of (by have:=HH.out (wr.drewN n) (below_drewN HB.out n) k hk ls[k];rwa [List.length_take,Nat.min_eq_left hk,decide_eq_true hm] at this))
       have hz:df ls=3:=Hno.out (by rw [tq hlt hm,Bool.false_and]);have E:=hide (jO kex hz (by decide));clear hm hr H HH HR HA hz Hno Hyes hcl;generalize ls[k]=y at HR2 HC hcl2;go_upto_region 8 with fail;go_quiet (first | (go_at_call 70;exact HR2.out _) | (go_at_call 78;exact HC.out _));go_wp2_with fail;go_ret;exact ⟨by rw [E.out];rfl,below_drewN HB.out _⟩
      ·have HC:=hide (show ∀n,Calls Tryz.prog 78 #[.slice (some ad) k c',.string (bs ls[k])] (wr.drewN n) (fun e w'=>e=.returned (.bool false)∧∃m,w'=wr.drewN m) from fun n=>quiet_of (by have:=HH.out (wr.drewN n) (below_drewN HB.out n) k hk ls[k];rwa [List.length_take,Nat.min_eq_left hk,decide_eq_false hm] at this))
       have H2:=hide (show (∀x∈ls.take (k+1),bf x=true)∧∀i,(hi:i<ls.length)→i<k+1→ls[i] ∉ ls.take i from ⟨fun x hx=>by
        rw [List.take_succ_eq_append_getElem hlt] at hx;rcases List.mem_append.1 hx with hx | hx
        ·exact H.out.1 x hx
        ·simp only [List.mem_singleton] at hx
         subst hx
         exact hr,fun i hi h2=>by
        by_cases e:i=k
        ·subst e;exact hm
        ·exact H.out.2 i hi (by omega)⟩)
       clear hm hr H HH HR HA Hno Hyes hcl;generalize ls[k]=y at HR2 HC hcl2;go_upto_region 8 with fail;go_quiet (first | (go_at_call 70;exact HR2.out _) | (go_at_call 78;exact HC.out _));go_wp2_with fail;go_round
       case rel=>exact ⟨⟨k+1,hlt,by go_num,H2⟩,hide (below_drewN HB.out _)⟩
       case measure=>simp [intOf];omega
    ·have hltI:¬ (k:Int)<ls.length:=by omega
     have hz:df ls=0:=Hyes.out (by
      rw [qM (l:=ls) (fun i hi=>H.out.2 i hi (by omega)),Bool.true_and,List.all_eq_true]
      exact fun x hx=>H.out.1 x (by rw [List.take_of_length_le (by omega)];exact hx))
     have Hz:=hide hz;clear H HH HR hz Hno Hyes;have HMe:=hide (fun (W:World) s=>Az s W);go_wp2_with fail
     go_loopw [6] (fun i wr=>(∃k:Nat,k≤ls.length∧i=.int .i64 k∧Hid (kex=true→∀x∈ls.take k,aY x≠0))∧Hid (Below w.heap.size w wr)) (fun i _=>ls.length - (intOf i).toNat)
     case atStart=>exact ⟨⟨0,Nat.zero_le _,rfl,hide (by simp)⟩,HB⟩
     case round =>
      obtain ⟨⟨k,hk,rfl,H⟩,HB⟩:=hrel
      by_cases hlt:k<ls.length
      ·have hltI:(k:Int)<ls.length:=by omega
       obtain ⟨ad,rfl,had,hcl⟩:=HA.out k hlt
       have hcl2:=(o8 HB.out had hcl)
       have HC:=hide (HMe.out wr ls[k])
       cases kex with
       | false =>
        have H2:=hide (show false=true→∀x∈ls.take (k+1),aY x≠0 from fun e=>by cases e);clear H HC HMe HA hcl;go_wp2_with fail;go_round
        case rel=>exact ⟨⟨k+1,hlt,by go_num,H2⟩,HB⟩
        case measure=>simp [intOf];omega
       | true =>
        by_cases hm:aY ls[k]=0
        ·rw [hm] at HC
         have E:=hide (FE Hz.out (nU (List.getElem_mem hlt) (by rw [decide_eq_true hm];rfl)));clear H hm HMe HA hcl;go_wp2_with (first | (go_at_call 276;refine HC.out.mono ?_;rintro e w3 ⟨rfl,hb3⟩) | fail);go_ret;exact ⟨by rw [E.out];rfl,HB.out.trans (hb3.mono HB.out.size)⟩
        ·have hm2:(aY ls[k] == 0)=false:=by rw [beq_eq_false_iff_ne];exact hm
         have H2:=hide (show true=true→∀x∈ls.take (k+1),aY x≠0 from fun e x hx=>by
          rw [List.take_succ_eq_append_getElem hlt] at hx;rcases List.mem_append.1 hx with hx | hx
          ·exact H.out rfl x hx
          ·simp only [List.mem_singleton] at hx
           subst hx
           exact hm)
         clear H HMe HA hm hcl;go_wp2_with (first | (go_at_call 276;refine HC.out.mono ?_;rintro e w3 ⟨rfl,hb3⟩) | fail);have HB3:=hide (HB.out.trans (hb3.mono HB.out.size));go_round
         case rel=>exact ⟨⟨k+1,hlt,by go_num,H2⟩,HB3⟩
         case measure=>simp [intOf];omega
      ·have hltI:¬ (k:Int)<ls.length:=by omega
       have E:=hide (show dC ls kex=0 from by
        cases kex with
        | false=>exact Gj Hz.out
        | true =>
         have hkw:Dq ls=true:=by
          unfold Dq;rw [List.all_eq_true];intro x hx;rw [decide_eq_false (H.out rfl x (by rw [List.take_of_length_le (by omega)];exact hx))];rfl
         exact Gt Hz.out hkw true)
       clear H HMe HA;go_wp2_with fail;go_ret;exact ⟨by rw [E.out];rfl,HB.out⟩
end
end Go.Proofs.YtnhekaepgpbijaaGreatDoor
