/- Several of my texts in one: RRead, RefG, ReX, PrfG, KxRG, Kx6. -/
import Derived.Test.YtnhekaepgpbijaaGreatDoorJRGetXG
import Derived.Test.YtnhekaepgpbijaaGreatDoorJFlNG
import Derived.Test.YtnhekaepgpbijaaGreatDoorJGetsG
import Derived.Test.YtnhekaepgpbijaaGreatDoorJAsG
import Derived.Test.YtnhekaepgpbijaaGreatDoorJRPutG
import Derived.Test.YtnhekaepgpbijaaGreatDoorJCfBG
import Derived.Deep.RegionWith
import Derived.Deep.Onto
import Derived.Test.YtnhekaepgpbijaaGreatDoorJChnG
set_option linter.unusedVariables false
set_option linter.unusedSimpArgs false
set_option maxHeartbeats 40000000
set_option maxRecDepth 100000
namespace Go.Proofs.YtnhekaepgpbijaaGreatDoor
open Go.RowKit Go.ChangeShapes Go.WideShapes Go.Sort
def Kb:ByteArray:=⟨#[48,49,50,51,52,53,54,55,56,57]⟩
theorem O0:∀i<10,(Kb.extract i (i+1)++(⟨#[32]⟩:ByteArray)).data.toList=Lib.decDigits i++[32]:=by decide +kernel
theorem Qy:∀i<100,10≤i→(Kb.extract (i / 10) (i / 10+1)++Kb.extract (i % 10) (i % 10+1)++(⟨#[32]⟩:ByteArray)).data.toList=Lib.decDigits i++[32]:=by decide +kernel
theorem JZ:∀i<100,(atL [Lib.decDigits i]).length≤10:=by decide +kernel
theorem DV (i:Nat) (hi:i<100) (w:World):Calls Tryz.prog 74 #[.int .i64 i] w (Says (atL [Lib.decDigits i]) w):=by
 have hat:atL [Lib.decDigits i]=Lib.decDigits i++[32]:=by simp [atL]
 rw [hat];have hd10:Kb.size=10:=rfl
 by_cases h10:i<10
 ·have h10':(i:Int)<10:=by omega
  have HE:=hide (kV (O0 i h10));have hw:IntKind.i64.wrap ((i:Int)+1)=((i+1:Nat):Int):=by rw [wrap_small _ (by omega) (by omega)];omega
  clear hat;go_enter Tryz.func74,Tryz.ntmps74;rw [show (⟨#[48,49,50,51,52,53,54,55,56,57]⟩:ByteArray)=Kb from rfl];go_wp2_with fail;go_ret;exact ⟨by rw [←HE.out];rfl,Below.refl _ _⟩
 ·have h10':¬ (i:Int)<10:=by omega
  have HE:=hide (kV (Qy i hi (by omega)));have hq:(i:Int).tdiv 10=((i / 10:Nat):Int):=by rw [Int.tdiv_eq_ediv_of_nonneg (by omega)];omega
  have hr:(i:Int).tmod 10=((i % 10:Nat):Int):=by rw [Int.tmod_eq_emod_of_nonneg (by omega)];omega
  obtain ⟨a,ha⟩:∃a,a=i / 10:=⟨_,rfl⟩
  obtain ⟨b,hb⟩:∃b,b=i % 10:=⟨_,rfl⟩
  rw [←ha] at hq HE;rw [←hb] at hr HE;have hw1:IntKind.i64.wrap ((a:Int)+1)=((a+1:Nat):Int):=by rw [wrap_small _ (by omega) (by omega)];omega
  have hw2:IntKind.i64.wrap ((b:Int)+1)=((b+1:Nat):Int):=by rw [wrap_small _ (by omega) (by omega)];omega
  have ha10:a<10:=by omega
  have hb10:b<10:=by omega
  clear hat hi ha hb;go_enter Tryz.func74,Tryz.ntmps74;rw [show (⟨#[48,49,50,51,52,53,54,55,56,57]⟩:ByteArray)=Kb from rfl];go_wp2_with fail;go_region;go_wp2_with fail;go_ret;exact ⟨by rw [←HE.out];rfl,(Below.refl _ _).drew⟩
theorem dF {w:World} {r:Nat} {t:TypeId} {o0 o1:Value} (h:Blk w r t #[o0,o1]) (v0 v1:Value):Blk ((w.setCell ⟨r,0,none⟩ v0).setCell ⟨r,1,none⟩ v1) r t #[v0,v1]:=by
 have h1:=(h.set_ 0 v0).set_ 1 v1;simpa using h1
structure Ue (w:World) (f:ByteArray) (R:RdR) (i:Nat) (A:Option Addr) (c:Nat) (wr:World):Prop where
 bel:Below w.heap.size w wr
 eb:Blk wr w.heap.size 45 #[.int .i64 0,.string ⟨#[]⟩]
 st:∃zs r',vz (w.heap.size+2) wr A i c zs∧Rd3 wr (w.heap.size+1) r' 0∧r'.length≤1000000∧R=eu (zs.map (·.1)) (bu (f.data.toList.drop i) r' i)
end Go.Proofs.YtnhekaepgpbijaaGreatDoor
namespace Go.Proofs.YtnhekaepgpbijaaGreatDoor
open Go.RowKit
def table:List (Int × ByteArray × List ByteArray):=[
 (1,⟨#[100,105,115,99,111,110,110,101,99,116]⟩,[⟨#[117,115,115]⟩]),
 (2,⟨#[105,103,110,111,114,101]⟩,[⟨#[115]⟩]),
 (3,⟨#[117,110,105,109,112,108,101,109,101,110,116,101,100]⟩,[⟨#[117]⟩]),
 (4,⟨#[100,101,98,117,103]⟩,[⟨#[98,115,115]⟩]),
 (5,⟨#[115,101,114,118,105,99,101,45,114,101,113,117,101,115,116]⟩,[⟨#[115]⟩]),
 (6,⟨#[115,101,114,118,105,99,101,45,97,99,99,101,112,116]⟩,[⟨#[115]⟩]),
 (7,⟨#[101,120,116,45,105,110,102,111]⟩,[⟨#[101]⟩]),
 (20,⟨#[107,101,120,105,110,105,116]⟩,[⟨#[99,110,110,110,110,110,110,110,110,110,110,98,117]⟩]),
 (21,⟨#[110,101,119,107,101,121,115]⟩,[⟨#[]⟩]),
 (30,⟨#[101,99,100,104,45,105,110,105,116]⟩,[⟨#[116]⟩]),
 (31,⟨#[114,101,112,108,121,45,111,114,45,103,114,111,117,112]⟩,[⟨#[116,116,116]⟩,⟨#[109,109]⟩]),
 (32,⟨#[103,101,120,45,105,110,105,116]⟩,[⟨#[116]⟩]),
 (33,⟨#[103,101,120,45,114,101,112,108,121]⟩,[⟨#[116,116,116]⟩]),
 (34,⟨#[103,101,120,45,114,101,113,117,101,115,116]⟩,[⟨#[117,117,117]⟩]),
 (50,⟨#[117,115,101,114,97,117,116,104,45,114,101,113,117,101,115,116]⟩,[⟨#[115,115,115]⟩,⟨#[115,115,115,98,115,116]⟩,⟨#[115,115,115,98,115,116,116]⟩]),
 (51,⟨#[117,115,101,114,97,117,116,104,45,102,97,105,108,117,114,101]⟩,[⟨#[110,98]⟩]),
 (52,⟨#[117,115,101,114,97,117,116,104,45,115,117,99,99,101,115,115]⟩,[⟨#[]⟩]),
 (53,⟨#[117,115,101,114,97,117,116,104,45,98,97,110,110,101,114]⟩,[⟨#[115,115]⟩]),
 (60,⟨#[117,115,101,114,97,117,116,104,45,112,107,45,111,107]⟩,[⟨#[115,116]⟩])]

def Me (lo:Nat) (w:World) (v:Value) (l:List (Int × ByteArray × List ByteArray)):Prop :=
 ∃A c,v=.slice A l.length c∧∀i (h:i<l.length),∃ad fv,A=some ad∧lo≤ad.block∧ad.block<w.heap.size∧w.cell? (ad.add (i*3))=some (.int .i64 l[i].1)∧w.cell? (ad.add (i*3+1))=some (.string l[i].2.1)∧w.cell? (ad.add (i*3+2))=some fv∧Strs lo w fv l[i].2.2
def iL:Nat→List (Int × ByteArray × List ByteArray)→List Value
 | _,[]=>[]
 | B,r :: l=>.int .i64 r.1 :: .string r.2.1 :: .slice (some ⟨B,0,none⟩) r.2.2.length r.2.2.length :: iL (B+1) l
theorem Bz (B:Nat) (l:List (Int × ByteArray × List ByteArray)) (i:Nat) (h:i<l.length):(iL B l)[i*3]?=some (.int .i64 l[i].1)∧(iL B l)[i*3+1]?=some (.string l[i].2.1) ∧
  (iL B l)[i*3+2]?=some (.slice (some ⟨B+i,0,none⟩) l[i].2.2.length l[i].2.2.length):=by
 induction l generalizing B i with
 | nil=>simp at h
 | cons r l ih =>
  cases i with
  | zero=>simp [iL]
  | succ i =>
   have:=ih (B+1) i (by simpa using h);simp only [Nat.add_mul,Nat.one_mul,iL,List.getElem_cons_succ];refine ⟨this.1,this.2.1,?_⟩;rw [show B+(i+1)=B+1+i from by omega];exact this.2.2
def yQ (l:List (Int × ByteArray × List ByteArray)):List Obj:=l.map fun r=>Obj.cells (r.2.2.map Value.string).toArray 9
def gW (B:Nat):List Obj:=yQ table++[Obj.cells (iL B table).toArray 151]
theorem G7 (w:World):Me w.heap.size (nE w (gW w.heap.size)) (.slice (some ⟨w.heap.size+19,0,none⟩) 19 19) table∧Below w.heap.size w (nE w (gW w.heap.size)):=by
 refine ⟨⟨_,_,rfl,fun i h=>?_⟩,oM _ _⟩;have h19:i<19:=h;have hb:Blk (nE w (gW w.heap.size)) (w.heap.size+19) 151 (iL w.heap.size table).toArray:=vW w (gW w.heap.size) (k:=19) rfl;obtain ⟨h1,h2,h3⟩:=Bz w.heap.size table i h
 have hs:Blk (nE w (gW w.heap.size)) (w.heap.size+i) 9 (table[i].2.2.map Value.string).toArray:=by
  refine vW w (gW w.heap.size) (k:=i) ?_;rw [gW,List.getElem?_append_left (by simpa [yQ] using h),yQ,List.getElem?_map,List.getElem?_eq_getElem h];rfl
 refine ⟨_,_,rfl,Nat.le_add_right _ _,hb.lt,?_,?_,?_,hs.strs (Nat.le_add_right _ _) table[i].2.2.length⟩
 ·rw [bJ,hb.cell,List.getElem?_toArray];exact h1
 ·rw [bJ,hb.cell,List.getElem?_toArray];exact h2
 ·rw [bJ,hb.cell,List.getElem?_toArray];exact h3
theorem Hu (w:World):Calls Tryz.prog 121 #[] w fun e w'=>∃v,e=.returned v∧Me w.heap.size w' v table∧Below w.heap.size w w':=by
 go_enter Tryz.func121,Tryz.ntmps121;go_wp2;go_ret;exact ⟨_,rfl,G7 w⟩
def rowOf (n:Int):Int × ByteArray × List ByteArray:=(table.find? (fun r=>r.1 == n)).getD (0,⟨#[]⟩,[])
theorem KR (n:Int) (w:World):Calls Tryz.prog 72 #[.int .i64 n] w fun e w'=>∃fv,e=.returned (.agg #[.int .i64 (rowOf n).1,.string (rowOf n).2.1,fv])∧Strs w.heap.size w' fv (rowOf n).2.2∧Below w.heap.size w w':=by
 have hl:table.length=19:=rfl;have Hl:=hide hl;clear hl;go_enter Tryz.func72,Tryz.ntmps72;go_wp2_with (go_at_call 121;refine (Hu _).mono ?_;rintro e w1 ⟨v,rfl,⟨A,c,rfl,hr⟩,hb⟩;rw [Hl.out]);obtain ⟨hbc,hbf⟩:=xK hb;have hbz:=hb.size;simp only [World.size_alloc] at hbz hr;have hb0:Below w.heap.size w w1:=((Below.refl _ _).alloc (Nat.le_refl _) _).trans (hb.mono (by simp))
 go_loop [4] (fun i=>∃k:Nat,k≤19∧i=.int .i64 k∧∀j (h:j<table.length),j<k→table[j].1≠n) (fun i=>19 - (intOf i).toNat)
 case atStart=>exact ⟨0,Nat.zero_le _,rfl,by simp⟩
 case round =>
  obtain ⟨k,hk,rfl,hno⟩:=hrel
  by_cases hlt:k<19
  ·obtain ⟨ad,fv,rfl,_,hlo,h1,h2,h3,hs⟩:=hr k (by rw [Hl.out];exact hlt)
   generalize hk':table[k]'(by rw [Hl.out];exact hlt)=r at h1 h2 h3 hs;have h2':=lD (j:=0) h2;have h3':=lD (j:=1) h3
   by_cases hm:r.1=n
   ·have hro:rowOf n=r:=by
     have:table.find? (fun r=>r.1 == n)=some r:=by
      rw [List.find?_eq_some_iff_getElem];exact ⟨by simpa using hm,k,by rw [Hl.out];exact hlt,hk',fun j hj=>by simpa using hno j _ hj⟩
     simp [rowOf,this]
    have Hro:=hide hro;have Hk:=hide hk';clear hro hk' hno;obtain ⟨A',c',rfl,hr'⟩:=hs;go_wp2;refine bodyPost_ret (v:=.agg #[.int .i64 n,.string r.2.1,.slice A' r.2.2.length c']) (by simp [results,Tryz.results72,go_sem,hbc]) rfl ⟨.slice A' r.2.2.length c',?_,?_,?_⟩
    ·rw [Hro.out,hm]
    ·rw [Hro.out]
     exact ⟨_,_,rfl,(((hr'.setCell (Nat.lt_succ_self _) _).setCell (Nat.lt_succ_self _) _).setCell (Nat.lt_succ_self _) _).mono (Nat.le_succ _)⟩
    ·exact (((hb0.setCell (Nat.le_refl _) _).setCell (Nat.le_refl _) _).setCell (Nat.le_refl _) _)
   ·have hno':∀j (h:j<table.length),j<k+1→table[j].1≠n:=by
     intro j h hj
     by_cases hjk:j=k
     ·subst hjk
      rw [hk'];exact hm
     ·exact hno j h (by omega)
    have Hno:=hide hno';clear hk' hno hno';go_wp2;go_round
    case rel=>exact ⟨k+1,hlt,by go_num,Hno.out⟩
    case measure=>simp [intOf];omega
  ·have hro:rowOf n=(0,⟨#[]⟩,[]):=by
    have:table.find? (fun r=>r.1 == n)=none:=by
     rw [List.find?_eq_none];intro s hs;obtain ⟨j,hj,rfl⟩:=List.getElem_of_mem hs;have h19:=Hl.out;simpa using hno j hj (by omega)
    simp [rowOf,this]
   have Hro:=hide hro;clear hro hno;go_wp2;refine bodyPost_ret (v:=.agg #[.int .i64 0,.string ⟨#[]⟩,.slice none 0 0]) (by simp [results,Tryz.results72,go_sem,hbc]) rfl ⟨.slice none 0 0,?_,?_,?_⟩
   ·rw [Hro.out]
   ·rw [Hro.out]
    exact ⟨none,0,rfl,Sl.nil_⟩
   ·exact (((hb0.setCell (Nat.le_refl _) _).setCell (Nat.le_refl _) _).setCell (Nat.le_refl _) _)
theorem xX (P:Int→Prop) (h1:P 1) (h2:P 2) (h3:P 3) (h4:P 4) (h5:P 5) (h6:P 6) (h7:P 7) (h20:P 20) (h21:P 21) (h30:P 30) (h31:P 31) (h32:P 32) (h33:P 33) (h34:P 34) (h50:P 50) (h51:P 51) (h52:P 52) (h53:P 53) (h60:P 60) (ho:∀n,n≠1→n≠2→n≠3→n≠4→n≠5→n≠6→n≠7→n≠20→n≠21→n≠30→n≠31→n≠32→n≠33→n≠34→n≠50→n≠51→n≠52→n≠53→n≠60→P n) (n:Int):P n:=by
 by_cases c1:n=1
 ·subst c1;exact h1
 by_cases c2:n=2
 ·subst c2;exact h2
 by_cases c3:n=3
 ·subst c3;exact h3
 by_cases c4:n=4
 ·subst c4;exact h4
 by_cases c5:n=5
 ·subst c5;exact h5
 by_cases c6:n=6
 ·subst c6;exact h6
 by_cases c7:n=7
 ·subst c7;exact h7
 by_cases c20:n=20
 ·subst c20;exact h20
 by_cases c21:n=21
 ·subst c21;exact h21
 by_cases c30:n=30
 ·subst c30;exact h30
 by_cases c31:n=31
 ·subst c31;exact h31
 by_cases c32:n=32
 ·subst c32;exact h32
 by_cases c33:n=33
 ·subst c33;exact h33
 by_cases c34:n=34
 ·subst c34;exact h34
 by_cases c50:n=50
 ·subst c50;exact h50
 by_cases c51:n=51
 ·subst c51;exact h51
 by_cases c52:n=52
 ·subst c52;exact h52
 by_cases c53:n=53
 ·subst c53;exact h53
 by_cases c60:n=60
 ·subst c60;exact h60
 exact ho n c1 c2 c3 c4 c5 c6 c7 c20 c21 c30 c31 c32 c33 c34 c50 c51 c52 c53 c60
theorem Bn:∀n,(rowOf n).2.2=forms n:=by
 refine xX _ (by decide +kernel) (by decide +kernel) (by decide +kernel) (by decide +kernel) (by decide +kernel) (by decide +kernel) (by decide +kernel) (by decide +kernel) (by decide +kernel) (by decide +kernel) (by decide +kernel) (by decide +kernel) (by decide +kernel) (by decide +kernel) (by decide +kernel) (by decide +kernel) (by decide +kernel) (by decide +kernel) (by decide +kernel) ?_;intro n h1 h2 h3 h4 h5 h6 h7 h20 h21 h30 h31 h32 h33 h34 h50 h51 h52 h53 h60
 have h:table.find? (fun r=>r.1 == n)=none:=by
  simp [table];omega
 unfold rowOf;rw [h];simp [forms, *]
theorem Fb:∀n,(rowOf n).2.1=word n:=by
 refine xX _ (by decide +kernel) (by decide +kernel) (by decide +kernel) (by decide +kernel) (by decide +kernel) (by decide +kernel) (by decide +kernel) (by decide +kernel) (by decide +kernel) (by decide +kernel) (by decide +kernel) (by decide +kernel) (by decide +kernel) (by decide +kernel) (by decide +kernel) (by decide +kernel) (by decide +kernel) (by decide +kernel) (by decide +kernel) ?_;intro n h1 h2 h3 h4 h5 h6 h7 h20 h21 h30 h31 h32 h33 h34 h50 h51 h52 h53 h60
 have h:table.find? (fun r=>r.1 == n)=none:=by
  simp [table];omega
 unfold rowOf;rw [h];simp [word,Kk, *]
@[go_sem] theorem Q6 (a b c:Value) (w:World):(Instr.field 151 (.agg #[a,b,c]) 1).run Tryz.prog w=.ok b w:=by kernel_rfl
@[go_sem] theorem R5 (a b c:Value) (w:World):(Instr.field 151 (.agg #[a,b,c]) 2).run Tryz.prog w=.ok c w:=by kernel_rfl
theorem MC (n m:Int) (w:World) :
  Calls Tryz.prog 71 #[.int .i64 n,.int .i64 m] w fun e w'=>e=.returned (.tuple #[.string (fit n m).1,.bool (fit n m).2])∧Below w.heap.size w w':=by
 have hl:=lU n;have Hr:=hide (Bn n);go_enter Tryz.func71,Tryz.ntmps71;go_wp2_with fail;refine (KR _ _).mono ?_;rw [Hr.out];rintro e w1 ⟨v,rfl,⟨A,c,rfl,hr⟩,hb⟩;go_wp2
 go_loop [7] (fun i=>∃k:Nat,k≤(forms n).length∧i=.int .i64 k∧∀j s,j<k→(forms n)[j]?=some s→(s.size:Int)≠m) (fun i=>(forms n).length - (intOf i).toNat)
 case atStart=>exact ⟨0,Nat.zero_le _,rfl,by simp⟩
 case round =>
  obtain ⟨k,hk,rfl,hno⟩:=hrel
  by_cases hlt:k<(forms n).length
  ·obtain ⟨ad,rfl,_,hc⟩:=hr.str hlt
   generalize hs:(forms n)[k]=s at hc;have hs':(forms n)[k]?=some s:=by rw [List.getElem?_eq_getElem hlt,hs]
   by_cases hm:(s.size:Int)=m
   ·have hf:fit n m=(s,true):=by
     have:(forms n).find? (fun s=>(s.size:Int) == m)=some s:=by
      rw [List.find?_eq_some_iff_getElem];exact ⟨by simpa using hm,k,hlt,hs,fun j hj=>by simpa using hno j _ hj (List.getElem?_eq_getElem (by omega))⟩
     simp [fit,this]
    have Hf:=hide hf;clear hf hs hs' hno;go_wp2;go_ret2;exact ⟨by rw [Hf.out];rfl,hb⟩
   ·have hno':∀j s,j<k+1→(forms n)[j]?=some s→(s.size:Int)≠m:=by
     intro j s' hj hs2
     by_cases hjk:j=k
     ·subst hjk
      rw [hs'] at hs2;cases hs2
      exact hm
     ·exact hno j s' (by omega) hs2
    have Hno:=hide hno';clear hs hs' hno hno';go_wp2;go_round
    case rel=>exact ⟨k+1,hlt,by go_num,Hno.out⟩
    case measure=>simp [intOf];omega
  ·have hf:fit n m=(⟨#[]⟩,false):=by
    have:(forms n).find? (fun s=>(s.size:Int) == m)=none:=by
     rw [List.find?_eq_none];intro s hs;obtain ⟨j,hj,rfl⟩:=List.getElem_of_mem hs;simpa using hno j _ (by omega) (List.getElem?_eq_getElem hj)
    simp [fit,this]
   have Hf:=hide hf;clear hf hno;go_wp2;go_ret2;exact ⟨by rw [Hf.out];rfl,hb⟩
end Go.Proofs.YtnhekaepgpbijaaGreatDoor

namespace Go.Proofs.YtnhekaepgpbijaaGreatDoor
open Go.RowKit Go.ChangeShapes Go.WideShapes Go.Sort
theorem Nu (n:Int):(word n).size≤60:=by
 unfold word Kk
 repeat' refine pV (P:=fun b:ByteArray=>b.size≤60) ?_ ?_
 all_goals decide
theorem Qb:atL [vG]=[109,101,115,115,97,103,101,32]:=by decide
structure ze (w:World) (h:Nat) (a b c d:Value):Prop where
 m:Blk w h 55 #[a,b]
 e:Blk w (h+1) 45 #[c,d]
theorem ze.below {w w':World} {h:Nat} {a b c d:Value} (t:ze w h a b c d) (hb:Below w.heap.size w w'):ze w' h a b c d:=⟨t.m.below hb t.m.lt,t.e.below hb t.e.lt⟩
theorem ze.set {w:World} {h:Nat} {a b c d:Value} (t:ze w h a b c d) (v0 v1 u0 u1:Value):ze ((((w.setCell ⟨h,0,none⟩ v0).setCell ⟨h,1,none⟩ v1).setCell ⟨h+1,0,none⟩ u0).setCell ⟨h+1,1,none⟩ u1) h v0 v1 u0 u1:=by
 have h1:=dF t.m v0 v1;have h2:=(t.e.far (p:=⟨h,0,none⟩) (by simp) v0).far (p:=⟨h,1,none⟩) (by simp) v1;exact ⟨(h1.far (p:=⟨h+1,0,none⟩) (by simp) u0).far (p:=⟨h+1,1,none⟩) (by simp) u1,dF h2 u0 u1⟩
theorem ze.bel {B:Nat} {w0 w:World} {h:Nat} (hb:Below B w0 w) (hh:B≤h) (v0 v1 u0 u1:Value):Below B w0 ((((w.setCell ⟨h,0,none⟩ v0).setCell ⟨h,1,none⟩ v1).setCell ⟨h+1,0,none⟩ u0).setCell ⟨h+1,1,none⟩ u1) :=
 (((hb.setCell (p:=⟨h,0,none⟩) hh v0).setCell (p:=⟨h,1,none⟩) hh v1).setCell (p:=⟨h+1,0,none⟩) (Nat.le_succ_of_le hh) u0).setCell (p:=⟨h+1,1,none⟩) (Nat.le_succ_of_le hh) u1
theorem ze.flds {lo:Nat} {w:World} {A:Option Addr} {l:List Fld} {h:Nat} (hf:dB lo w A l) (hh:h+1<lo) (v0 v1 u0 u1:Value):dB lo ((((w.setCell ⟨h,0,none⟩ v0).setCell ⟨h,1,none⟩ v1).setCell ⟨h+1,0,none⟩ u0).setCell ⟨h+1,1,none⟩ u1) A l :=
 (((hf.setCell (p:=⟨h,0,none⟩) (by show h<lo;omega) v0).setCell (p:=⟨h,1,none⟩) (by show h<lo;omega) v1).setCell (p:=⟨h+1,0,none⟩) hh u0).setCell (p:=⟨h+1,1,none⟩) hh u1
structure Uu (w:World) (p:List UInt8) (fs:List ByteArray) (num:Nat) (fv:Value) (b4 j:Nat) (wr:World):Prop where
 bel:Below w.heap.size w wr
 two:ze wr w.heap.size (.int .i64 0) (.slice none 0 0) (.int .i64 0) (.string ⟨#[]⟩)
 row:Blk wr b4 151 #[.int .i64 num,.string (word (num:Nat)),fv]
 rest:dO fs (p.drop 1)=dO (fs.drop j) (p.drop 1)
theorem Ce {f:List UInt8} {l:List Fld} {i:Nat} (out:List UInt8) (hf:i<f.length) (hl:i<l.length) :
  gV (f.drop i) (l.drop i) i out=if l[i].k=f[i].toNat then (if (eO l[i]).1=0 then (if 32768<(out++(eO l[i]).2).length then .long else gV (f.drop (i+1)) (l.drop (i+1)) (i+1) (out++(eO l[i]).2)) else .bad (eO l[i]).1 i) else .bad 3 i:=by
 rw [uN out hf hl];unfold eO
 cases hp:bz l[i] with
 | true=>simp
 | false=>simp
theorem Jq {x:Fld} (hx:SzF x):(eO x).2.length≤200000000:=by
 unfold eO
 split
 ·exact BI hx
 ·simp
theorem GK (x:Fld):(eO x).1≤5:=by
 unfold eO
 split
 ·exact qW x
 ·simp
def Tx (num:Int) (l:List Fld) (w:World) (e:Ending) (w':World):Prop :=
 Below w.heap.size w w'∧((∃s,encS num l=.ok s∧e=.returned (.tuple #[.string (bs s),.agg #[.int .i64 0,.string ⟨#[]⟩]])) ∨
  (∃ps,∃k:Nat,ic num (encS num l)=some (ps,k)∧k≠0∧e=.returned (.tuple #[.string ⟨#[]⟩,.agg #[.int .i64 k,.string (bs (atL ps))]])))
structure QS (w:World) (num:Int) (l:List Fld) (A:Option Addr) (c:Nat) (f:ByteArray) (i:Nat) (out:List UInt8) (wr:World):Prop where
 bel:Below w.heap.size w wr
 box:Blk wr w.heap.size 55 #[.int .i64 num,.slice A l.length c]
 eb:Blk wr (w.heap.size+1) 45 #[.int .i64 0,.string ⟨#[]⟩]
 go:gV (f.data.toList.drop i) (l.drop i) i out=encS num l
 len:out.length≤32768
theorem oU {B:Nat} {w0 w:World} {g:Nat} (hb:Below B w0 w) (hg:B≤g) (v0 v1:Value):Below B w0 ((w.setCell ⟨g,0,none⟩ v0).setCell ⟨g,1,none⟩ v1):=(hb.setCell (p:=⟨g,0,none⟩) hg v0).setCell (p:=⟨g,1,none⟩) hg v1
section
variable {w : World}
theorem nW (num:Int) {l:List Fld} {A:Option Addr} {c:Nat} (hl:kR w A l) (hs:∀x∈l,SzF x) (hll:l.length≤1000) :
  Calls Tryz.prog 28 #[.agg #[.int .i64 num,.slice A l.length c]] w (Tx num l w):=by
 have HF:=hide (fun W=>MC num (l.length:Int) W)
 obtain ⟨W0,hW0⟩:∃W0,W0=(w.alloc (.cells #[.int .i64 num,.slice A l.length c] 55)).alloc (.cells #[.int .i64 0,.string ⟨#[]⟩] 45):=⟨_,rfl⟩
 have hb0:Below w.heap.size w W0:=by rw [hW0];exact aa
 have hM0:Blk W0 w.heap.size 55 #[.int .i64 num,.slice A l.length c]:=by rw [hW0];exact (Blk.new w _ _).alloc _
 have hE0:Blk W0 (w.heap.size+1) 45 #[.int .i64 0,.string ⟨#[]⟩]:=by rw [hW0];exact gN w _ _ _
 have m0:=hM0.cell 0;have m1:=hM0.cell 1;simp at m0 m1
 cases hf:(fit num l.length).2 with
 | false =>
  have HE:=hide (show ic num (encS num l)=some ([vG],6) from by unfold encS;rw [hf];rfl);have HM:=hide (show bs (atL [vG])=(⟨#[109,101,115,115,97,103,101,32]⟩:ByteArray) from by rw [Qb];rfl);rw [hf] at HF;generalize (fit num l.length).1=f at HF;have HX:=hide (And.intro hE0 hb0);clear hl hs hM0 hE0 hb0 hf;go_enter Tryz.func28,Tryz.ntmps28;go_upto_region 1 with fail;rw [←hW0];clear hW0
  go_wp2_with (first
   | (go_at_call 71;refine (HF.out _).mono ?_;rintro e w1 ⟨rfl,hb1⟩;have hE:=HX.out.1.below hb1 HX.out.1.lt;have y0:=hE.cell 0;have y1:=hE.cell 1;have s0:=hE.frozen 0;have s1:=hE.frozen 1;simp at y0 y1)
   | fail)
  have hF:=dF hE (.int .i64 6) (.string ⟨#[109,101,115,115,97,103,101,32]⟩);have q2:=hF.cell 0;have q3:=hF.cell 1;simp at q2 q3;exact bodyPost_ret (v:=.tuple #[.string ⟨#[]⟩,.agg #[.int .i64 6,.string ⟨#[109,101,115,115,97,103,101,32]⟩]]) (by simp [results,Tryz.results28,go_sem,q2,q3]) rfl ⟨oU (HX.out.2.trans (hb1.mono HX.out.2.size)) (Nat.le_succ _) _ _,.inr ⟨[vG],6,HE.out,by decide,by rw [HM.out];rfl⟩⟩
 | true =>
  obtain ⟨hmem,hsz⟩:=oN hf;obtain ⟨hf13,hasc⟩:=nD hmem;have hn:=qJ (n:=num) (fun e=>by rw [e] at hmem;simp at hmem)
  have hE00:gV ((fit num l.length).1.data.toList.drop 0) (l.drop 0) 0 [UInt8.ofNat num.toNat]=encS num l:=by
   unfold encS;rw [if_pos hf];rfl
  rw [hf] at HF;generalize (fit num l.length).1=f at HF hsz hf13 hasc hE00
  obtain ⟨m,rfl⟩:∃m:Nat,num=m:=⟨num.toNat,by omega⟩
  have hmm:(m:Int).toNat=m:=by simp
  rw [hmm] at hE00;have HB:=hide (fun W=>mq m W (by omega))
  have hwm:IntKind.u8.wrap (m:Int)=m:=by
   simp only [IntKind.wrap,IntKind.bits,IntKind.signed];simp;omega
  have HOf:=hide (fun W=>KR (m:Int) W);rw [Fb] at HOf;have hwl:=Nu (m:Int)
  obtain ⟨wd,hwd⟩:∃wd,wd=word (m:Int):=⟨_,rfl⟩
  rw [←hwd] at HOf hwl;have Hwd:=hide hwd;have HL:=hide hl;have HS:=hide hs;have hfl:f.data.toList.length=l.length:=hsz;have hsz13:l.length≤13:=by omega
  have hszI:(f.size:Int)=l.length:=by omega
  have HX:=hide (And.intro hM0 (And.intro hE0 hb0));have HE0:=hide hE00;clear hl hs hM0 hE0 hb0 hE00 hmem hf hn hmm hwd hasc;go_enter Tryz.func28,Tryz.ntmps28;go_upto_region 1 with fail;rw [←hW0];clear hW0
  go_upto_region 6 with (first
   | (go_at_call 71;refine (HF.out _).mono ?_;rintro e w1 ⟨rfl,hb1⟩;have hM1:=HX.out.1.below hb1 HX.out.1.lt;have x0:=hM1.cell 0;simp at x0)
   | (go_at_call 72;refine (HOf.out _).mono ?_;rintro e w2 ⟨fv,rfl,hS2,hb2⟩;have hM2:=hM1.below hb2 hM1.lt;have x2:=hM2.cell 0;simp at x2)
   | (go_at_call 73;refine (HB.out _).mono ?_;rintro e w3 ⟨rfl,hb3⟩)
   | fail)
  have hb03:Below W0.heap.size W0 w3:=hb1.trans ((hb2.mono hb1.size).trans (hb3.mono (Nat.le_trans hb1.size hb2.size)));have HI0:=hide (show QS w m l A c f 0 [UInt8.ofNat m] w3 from ⟨HX.out.2.2.trans (hb03.mono HX.out.2.2.size),HX.out.1.below hb03 HX.out.1.lt,HX.out.2.1.below hb03 HX.out.2.1.lt,HE0.out,by simp⟩);have HPl:=hide (fun (i:Nat) (h:i<100) W=>DV i h W);clear hb1 hb2 hb3 hM1 hM2 x0 x2 m0 m1 HF HOf HB HX HE0 hb03 hS2;go_wp2_with fail
  go_loopw [7,8] (fun vo vi wr=>∃(i:Nat) (out:List UInt8),vo=.string (bs out)∧vi=.int .i64 i∧i≤l.length∧Hid (QS w m l A c f i out wr)) (fun _ vi _=>l.length - (intOf vi).toNat)
  case atStart=>exact ⟨0,_,rfl,rfl,Nat.zero_le _,HI0⟩
  case round =>
   obtain ⟨i,out,rfl,rfl,hi,HI⟩:=hrel;have hbr:=HI.out.bel;have hM:=HI.out.box;have hE:=HI.out.eb;have hol:=HI.out.len;have x0:=hM.cell 0;have x1:=hM.cell 1;have y0:=hE.cell 0;have y1:=hE.cell 1;have s0:=hE.frozen 0;have s1:=hE.frozen 1;simp at x0 x1 y0 y1
   by_cases hlt:i<l.length
   ·have hif:i<f.size:=by omega
    have hiI:(i:Int)<l.length:=by omega
    have hiF:(i:Int)<f.size:=by omega
    have hgo:=hide (Ce (i:=i) (f:=f.data.toList) (l:=l) out (by omega) hlt);have hgo2:=hide HI.out.go;have hfc:f.data.toList[i]'(by omega)=f[i]:=rfl;rw [hfc] at hgo;obtain ⟨ad,A2,c2,rfl,q0,q1,q2,q3,hTx,hc2,hk⟩:=Fx (HL.out.below hbr) hlt;have hSx:=HS.out _ (List.getElem_mem hlt);have hpl:=Jq hSx;have hpe:=GK l[i];generalize hx:l[i]=x at q0 q1 q2 q3 hTx hc2 hk hSx hgo hpl hpe;have HXr:=hide (And.intro hM (And.intro hE hbr));have hi100:i<100:=by omega
    have HPi:=hide (fun W=>HPl.out i hi100 W);have hdl:(bs (atL [Lib.decDigits i])).size≤10:=JZ i hi100;have hW2:=hide (show wd++(⟨#[32]⟩:ByteArray)++bs (atL [Lib.decDigits i])=bs (atL [wd.data.toList,Lib.decDigits i]) from kV (by rw [data_append,data_append,aU];simp [atL]));have hE7:=hide (fun (W:World) (hb:Below wr.heap.size wr W)=>hE.below hb hE.lt);have hPu:=hide (fun (W:World) (hb:∃n,W=wr.drewN n)=>NW (w:=W) x hSx (A:=A2) (c:=c2) (by obtain ⟨n,rfl⟩:=hb;exact hTx.below (below_drewN (Below.refl _ _) n)));unfold Says at HPi;generalize bs (atL [Lib.decDigits i])=pl at HPi hW2 hdl;clear hM hE HI hx hfc hSx hTx HS
    by_cases hch:x.k=f[i].toNat
    ·have ek:((x.k:Int) == (f[i].toNat:Int))=true:=Tt hch
     have ek2:((x.k:Int) != (f[i].toNat:Int))=false:=by simp [bne,ek]
     have hgo1:=hide (hgo.out.trans (if_pos hch));clear hgo hch;unfold dV at hPu
     by_cases he:(eO x).1=0
     ·have hgo3:=hide (hgo1.out.trans (if_pos he))
      unfold kw at hPu;rw [he] at hPu;clear hgo1 he;generalize (eO x).2=bb at hPu hgo3 hpl;have hL1:(bs (out++bb)).size=out.length+bb.length:=by rw [aR,List.length_append]
      by_cases hL:32768<(out++bb).length
      ·have HE:=hide (show ic m (encS m l)=some ([wd.data.toList],2) from by
        rw [←hgo2.out,hgo3.out,if_pos hL,Hwd.out]
        rfl)
       have hW1:=hide (show wd++(⟨#[32]⟩:ByteArray)=bs (atL [wd.data.toList]) from kV (by rw [data_append];simp [atL]));have hL2:(32768:Int)<(out.length:Int)+(bb.length:Int):=by rw [List.length_append] at hL;omega
       have hL3:(32768:Int)<((out.length+bb.length:Nat):Int):=by omega
       have hL4:(32768:Int)<((bs (out++bb)).size:Int):=by rw [hL1];omega
       clear hgo3 hL hgo2;go_upto_region 9 with fail;go_quiet (fail)
       go_wp2_with (first
        | (go_at_call 75;refine (hPu.out _ ⟨_,rfl⟩).mono ?_;rintro e w4 ⟨rfl,hb4⟩;have hbX:=(below_drewN (Below.refl _ _) _).trans hb4;have hE4:=hE7.out _ hbX;have y0:=hE4.cell 0;have y1:=hE4.cell 1;have s0:=hE4.frozen 0;have s1:=hE4.frozen 1;simp at y0 y1)
        | fail)
       have hF:=dF hE4 (.int .i64 2) (.string (wd++(⟨#[32]⟩:ByteArray)));have q2:=hF.cell 0;have q3:=hF.cell 1;simp at q2 q3;exact bodyPost_ret (v:=.tuple #[.string ⟨#[]⟩,.agg #[.int .i64 2,.string (wd++(⟨#[32]⟩:ByteArray))]]) (by simp [results,Tryz.results28,go_sem,q2,q3]) rfl ⟨oU (HXr.out.2.2.trans (hbX.mono HXr.out.2.2.size)) (Nat.le_succ _) _ _,.inr ⟨_,2,HE.out,by decide,by rw [hW1.out];rfl⟩⟩
      ·have HN:=hide (show gV (f.data.toList.drop (i+1)) (l.drop (i+1)) (i+1) (out++bb)=encS m l from by rw [←hgo2.out,hgo3.out,if_neg hL])
       have hL2:¬ (32768:Int)<(out.length:Int)+(bb.length:Int):=by rw [List.length_append] at hL;omega
       have hL3:¬ (32768:Int)<((out.length+bb.length:Nat):Int):=by omega
       have hL4:¬ (32768:Int)<((bs (out++bb)).size:Int):=by rw [hL1];omega
       have HL9:=hide (Nat.le_of_not_lt hL);clear hgo3 hL hgo2;go_upto_region 9 with fail;go_quiet (fail)
       go_wp2_with (first
        | (go_at_call 75;refine (hPu.out _ ⟨_,rfl⟩).mono ?_;rintro e w4 ⟨rfl,hb4⟩;have hbX:=(below_drewN (Below.refl _ _) _).trans hb4;have hE4:=hE7.out _ hbX;have y0:=hE4.cell 0;have y1:=hE4.cell 1;have s0:=hE4.frozen 0;have s1:=hE4.frozen 1;simp at y0 y1)
        | fail)
       exact ⟨⟨i+1,out++bb,rfl,by go_num,by omega,hide ⟨HXr.out.2.2.trans (hbX.mono HXr.out.2.2.size),HXr.out.1.below hbX HXr.out.1.lt,hE4,HN.out,HL9.out⟩⟩,by simp [intOf];omega⟩
     ·have HE:=hide (show ic m (encS m l)=some ([wd.data.toList,Lib.decDigits i],(eO x).1) from by
       rw [←hgo2.out,hgo1.out,if_neg he,Hwd.out]
       rfl)
      have e1:(((eO x).1:Int) == 0)=false:=by rw [beq_eq_false_iff_ne];omega
      have e2:(((eO x).1:Int) != 0)=true:=by simp [bne,e1]
      have He:=hide he;unfold kw at hPu;clear hgo1 hgo2 he;generalize (eO x).2=bb at hPu hpl;generalize (eO x).1=ke at hPu hpe HE e1 e2 He;go_upto_region 9 with fail;go_quiet (fail)
      go_wp2_with (first
       | (go_at_call 75;refine (hPu.out _ ⟨_,rfl⟩).mono ?_;rintro e w4 ⟨rfl,hb4⟩;have hbX:=(below_drewN (Below.refl _ _) _).trans hb4;have hE4:=hE7.out _ hbX;have y0:=hE4.cell 0;have y1:=hE4.cell 1;have s0:=hE4.frozen 0;have s1:=hE4.frozen 1;simp at y0 y1)
       | (go_at_call 74;refine (HPi.out _).mono ?_;rintro e w5 ⟨rfl,hb5⟩;have hE4:=hE4.below hb5 hE4.lt;have y0:=hE4.cell 0;have y1:=hE4.cell 1;have s0:=hE4.frozen 0;have s1:=hE4.frozen 1;simp at y0 y1)
       | fail)
      have hF:=dF hE4 (.int .i64 (ke:Nat)) (.string (wd++(⟨#[32]⟩:ByteArray)++pl));have q2:=hF.cell 0;have q3:=hF.cell 1;simp at q2 q3;exact bodyPost_ret (v:=.tuple #[.string ⟨#[]⟩,.agg #[.int .i64 (ke:Nat),.string (wd++(⟨#[32]⟩:ByteArray)++pl)]]) (by simp [results,Tryz.results28,go_sem,q2,q3]) rfl ⟨oU (HXr.out.2.2.trans ((hbX.trans (hb5.mono hbX.size)).mono HXr.out.2.2.size)) (Nat.le_succ _) _ _,.inr ⟨_,ke,HE.out,He.out,by rw [hW2.out]⟩⟩
    ·have ek:((x.k:Int) == (f[i].toNat:Int))=false:=iX hch
     have ek2:((x.k:Int) != (f[i].toNat:Int))=true:=by simp [bne,ek]
     have HE:=hide (show ic m (encS m l)=some ([wd.data.toList,Lib.decDigits i],3) from by
      rw [←hgo2.out,hgo.out,if_neg hch,Hwd.out]
      rfl)
     clear hgo hgo2 hch hPu;go_upto_region 9 with fail;go_quiet (fail);have hE4:=HXr.out.2.1
     go_wp2_with (first
      | (go_at_call 74;refine (HPi.out _).mono ?_;rintro e w5 ⟨rfl,hb5⟩;have hbX:=(below_drewN (Below.refl _ _) _).trans hb5;have hE4:=hE7.out _ hbX;have y0:=hE4.cell 0;have y1:=hE4.cell 1;have s0:=hE4.frozen 0;have s1:=hE4.frozen 1;simp at y0 y1)
      | fail)
     have hF:=dF hE4 (.int .i64 3) (.string (wd++(⟨#[32]⟩:ByteArray)++pl));have q2:=hF.cell 0;have q3:=hF.cell 1;simp at q2 q3;exact bodyPost_ret (v:=.tuple #[.string ⟨#[]⟩,.agg #[.int .i64 3,.string (wd++(⟨#[32]⟩:ByteArray)++pl)]]) (by simp [results,Tryz.results28,go_sem,q2,q3]) rfl ⟨oU (HXr.out.2.2.trans (hbX.mono HXr.out.2.2.size)) (Nat.le_succ _) _ _,.inr ⟨_,3,HE.out,by decide,by rw [hW2.out];rfl⟩⟩
   ·have hil:i=l.length:=by omega
    subst hil;have hiF:¬ (l.length:Int)<f.size:=by omega
    have HE:=hide (show encS m l=.ok out from by
     rw [←HI.out.go,List.drop_of_length_le (by omega)]
     rfl)
    have hE4:=hE;have Hbr:=hide hbr;clear HI hM hE hbr;go_wp2_with fail;have hF:=dF hE4 (.int .i64 0) (.string ⟨#[]⟩);have q2:=hF.cell 0;have q3:=hF.cell 1;simp at q2 q3;exact bodyPost_ret (v:=.tuple #[.string (bs out),.agg #[.int .i64 0,.string ⟨#[]⟩]]) (by simp [results,Tryz.results28,go_sem,q2,q3]) rfl ⟨oU Hbr.out (Nat.le_succ _) _ _,.inl ⟨out,HE.out,rfl⟩⟩
end
end Go.Proofs.YtnhekaepgpbijaaGreatDoor

namespace Go.Proofs.YtnhekaepgpbijaaGreatDoor
end Go.Proofs.YtnhekaepgpbijaaGreatDoor

namespace Go.Proofs.YtnhekaepgpbijaaGreatDoor
open Go.RowKit Go.ChangeShapes Go.WideShapes Go.Sort
theorem BR {W:World} {B g size n:Nat} {e t:TypeId} {v:Value} {xs:List Value} {cs:Array Value} (h:W.ownsRow B e size v n xs) (hb:Blk W g t cs) (hne:e≠t) (c:Nat) (u:Value):(W.setCell ⟨g,c,none⟩ u).ownsRow B e size v n xs :=
 h.kept (ag (aj W (some g)) (.inl rfl) u) (.inr (aS h hb hne))
structure xH (lo:Nat) (mb:Nat) (num:Int) (A:Option Addr) (n c:Nat) (zs:List (Fld × Value)) (w:World):Prop where
 len:zs.length=n
 m:Blk w mb 55 #[.int .i64 num,.slice A n c]
 own:w.ownsRow lo 60 4 (.slice A n c) n (fcs zs)
end Go.Proofs.YtnhekaepgpbijaaGreatDoor

namespace Go.Proofs.YtnhekaepgpbijaaGreatDoor
open Go.RowKit
theorem Lg:(Tryz.prog.info? 9).map (fun i=>(i.zero,i.size,i.bytes))=some (some (.string ByteArray.empty),1,16):=by kernel_rfl
def iZ (lo:Nat) (w:World) (vs:List Value) (ss:List (List ByteArray)):Prop :=
 vs.length=ss.length∧∀(i:Nat) (v:Value) (s:List ByteArray),vs[i]?=some v→ss[i]?=some s→Strs lo w v s∧s.length≤9223372036854775807
theorem iZ.below {lo:Nat} {w w':World} {vs:List Value} {ss:List (List ByteArray)} (h:iZ lo w vs ss) (hb:Below w.heap.size w w'):iZ lo w' vs ss :=
 ⟨h.1,fun i v s h1 h2=>⟨(h.2 i v s h1 h2).1.below hb,(h.2 i v s h1 h2).2⟩⟩
theorem iZ.alloc {lo:Nat} {w:World} {vs:List Value} {ss:List (List ByteArray)} (h:iZ lo w vs ss) (o:Obj):iZ lo (w.alloc o) vs ss:=h.below ((Below.refl _ _).alloc (Nat.le_refl _) o)
theorem iZ.at_ {lo:Nat} {w:World} {vs:List Value} {ss:List (List ByteArray)} (h:iZ lo w vs ss) {i:Nat} (hi:i<ss.length):∃v,vs[i]?=some v∧Strs lo w v ss[i]∧ss[i].length≤9223372036854775807:=by
 have hl:i<vs.length:=by rw [h.1];exact hi
 exact ⟨vs[i],List.getElem?_eq_getElem hl,h.2 i _ _ (List.getElem?_eq_getElem hl) (List.getElem?_eq_getElem hi)⟩
def yR (s:List ByteArray):Bool:=decide (s.length≤20) && s.all fun x=>decide (x.size≤100)
def qY (ss:List (List ByteArray)):Bool:=ss.all yR

def lg (v:Value):Prop:=∃A n c,v=.slice A n c
theorem Strs.isSl {lo:Nat} {w:World} {v:Value} {s:List ByteArray} (h:Strs lo w v s):lg v:=let ⟨A,c,e,_⟩:=h;⟨A,_,c,e⟩
theorem iZ.isSl {lo:Nat} {w:World} {vs:List Value} {ss:List (List ByteArray)} (h:iZ lo w vs ss) {i:Nat} {v:Value} (hv:vs[i]?=some v):lg v:=by
 have hl:i<ss.length:=by rw [←h.1];exact (List.getElem?_eq_some_iff.1 hv).1
 exact (h.2 i v _ hv (List.getElem?_eq_getElem hl)).1.isSl
theorem iZ.sl8 {lo:Nat} {w:World} {v0 v1 v2 v3 v4 v5 v6 v7:Value} {ss:List (List ByteArray)} (h:iZ lo w [v0,v1,v2,v3,v4,v5,v6,v7] ss):lg v0∧lg v1∧lg v2∧lg v3∧lg v4∧lg v5∧lg v6∧lg v7 :=
 ⟨h.isSl (i:=0) rfl,h.isSl (i:=1) rfl,h.isSl (i:=2) rfl,h.isSl (i:=3) rfl,h.isSl (i:=4) rfl,h.isSl (i:=5) rfl,h.isSl (i:=6) rfl,h.isSl (i:=7) rfl⟩
theorem sW {v0 v1 v2 v3 v4 v5 v6 v7:Value} (w:World) (hs:lg v0∧lg v1∧lg v2∧lg v3∧lg v4∧lg v5∧lg v6∧lg v7) :
  Calls Tryz.prog 137 #[.agg #[v0,v1,v2,v3,v4,v5,v6,v7]] w fun e w'=>e=.returned (.slice (some ⟨w.heap.size+1,0,none⟩) 8 8)∧Blk w' (w.heap.size+1) 22 #[v0,v1,v2,v3,v4,v5,v6,v7]∧Below w.heap.size w w':=by
 obtain ⟨⟨A0,n0,c0,rfl⟩,⟨A1,n1,c1,rfl⟩,⟨A2,n2,c2,rfl⟩,⟨A3,n3,c3,rfl⟩,⟨A4,n4,c4,rfl⟩,⟨A5,n5,c5,rfl⟩,⟨A6,n6,c6,rfl⟩,⟨A7,n7,c7,rfl⟩⟩:=hs;go_enter Tryz.func137,Tryz.ntmps137;go_wp2;go_ret;refine ⟨rfl,?_,by exact aa⟩;have:=Blk.new (w.alloc (.cells #[.slice A0 n0 c0,.slice A1 n1 c1,.slice A2 n2 c2,.slice A3 n3 c3,.slice A4 n4 c4,.slice A5 n5 c5,.slice A6 n6 c6,.slice A7 n7 c7] 24)) 22 #[.slice A0 n0 c0,.slice A1 n1 c1,.slice A2 n2 c2,.slice A3 n3 c3,.slice A4 n4 c4,.slice A5 n5 c5,.slice A6 n6 c6,.slice A7 n7 c7];rwa [World.size_alloc] at this
theorem PN {s:List ByteArray} (h1:s.length≤20) (h2:∀(j:Nat) (x:ByteArray),s[j]?=some x→x.size≤100):yR s=true:=by
 unfold yR;simp only [Bool.and_eq_true,decide_eq_true_eq,List.all_eq_true];refine ⟨h1,fun x hx=>?_⟩;obtain ⟨j,hj,rfl⟩:=List.getElem_of_mem hx;exact h2 j _ (List.getElem?_eq_getElem hj)
theorem GH {s:List ByteArray} (h1:¬ s.length≤20):yR s=false:=by
 unfold yR;simp [h1]
theorem Nv {s:List ByteArray} {j:Nat} (hj:j<s.length) (h1:¬ s[j].size≤100):yR s=false:=by
 unfold yR;rw [Bool.and_eq_false_iff];right;rw [List.all_eq_false];exact ⟨_,List.getElem_mem hj,by simpa using h1⟩
theorem zH {ss:List (List ByteArray)} {i:Nat} (hi:i<ss.length) (h:yR ss[i]=false):qY ss=false:=by
 unfold qY;rw [List.all_eq_false];exact ⟨_,List.getElem_mem hi,by simp [h]⟩
theorem GA {lo:Nat} {v0 v1 v2 v3 v4 v5 v6 v7:Value} {ss:List (List ByteArray)} {w:World} (h:iZ lo w [v0,v1,v2,v3,v4,v5,v6,v7] ss) :
  Calls Tryz.prog 80 #[.agg #[v0,v1,v2,v3,v4,v5,v6,v7]] w fun e w'=>e=.returned (.bool (qY ss))∧Below w.heap.size w w':=by
 have hl:ss.length=8:=h.1.symm;have hsl:=h.sl8;go_enter Tryz.func80,Tryz.ntmps80;go_wp2_with (go_at_call 137;refine (sW _ hsl).mono ?_;rintro e w1 ⟨rfl,hk,hb⟩);have hb1:Below w.heap.size w w1:=mo ((Below.refl _ _).alloc (Nat.le_refl _) _) hb;have h1:=h.below hb1;have hs1:=hk.lt;have hz:=hb1.size;clear hb h;rw [World.size_alloc] at hk hs1;generalize w.heap.size+1+1=g at hk hs1 ⊢
 go_loop [4] (fun i=>∃k:Nat,k≤8∧i=.int .i64 k∧∀(j:Nat) (s:List ByteArray),j<k→ss[j]?=some s→yR s=true) (fun i=>8 - (intOf i).toNat)
 case atStart=>exact ⟨0,by omega,rfl,by simp⟩
 case round =>
  obtain ⟨k,hk8,rfl,hall⟩:=hrel;have Hall:=hide hall;clear hall
  by_cases hlt:k<8
  ·obtain ⟨v,hv,⟨A,c,rfl,hr⟩,hm⟩:=h1.at_ (i:=k) (by omega)
   have hkc:k<ss.length:=by omega
   have hcell:w1.cell? ⟨g,k,none⟩=some (.slice A (ss[k]'hkc).length c):=by rw [hk.cell k];simpa using hv
   clear hv
   by_cases h20:(ss[k]'hkc).length≤20
   ·have h20':((ss[k]'hkc).length:Int)≤20:=by omega
    have hki:(k:Int)<8:=by omega
    go_wp2
    go_loop [5] (fun i=>∃j:Nat,j≤(ss[k]'hkc).length∧i=.int .i64 j∧∀(p:Nat) (x:ByteArray),p<j→(ss[k]'hkc)[p]?=some x→x.size≤100) (fun i=>(ss[k]'hkc).length - (intOf i).toNat)
    case atStart=>exact ⟨0,by omega,rfl,by simp⟩
    case round =>
     obtain ⟨j,hj,rfl,hin⟩:=hrel;have Hin:=hide hin;clear hin
     by_cases hjl:j<(ss[k]'hkc).length
     ·obtain ⟨ad,rfl,_,hc0⟩:=hr.str hjl
      have hji:(j:Int)<(ss[k]'hkc).length:=by omega
      by_cases hx:((ss[k]'hkc)[j]).size≤100
      ·have hx':(((ss[k]'hkc)[j]).size:Int)≤100:=by omega
       have Hx:=hide hx;clear hx;go_wp2;go_round
       case rel =>
        refine ⟨j+1,hjl,by go_num,fun p x hp hpx=>?_⟩;rcases Nat.lt_or_ge p j with h2 | h2
        ·exact Hin.out p x h2 hpx
        ·obtain rfl:p=j:=by omega
         rw [List.getElem?_eq_getElem hjl] at hpx;cases hpx
         exact Hx.out
       case measure=>simp [intOf];omega
      ·have Hf:=hide (zH hkc (Nv hjl hx))
       have hx':¬ (((ss[k]'hkc)[j]).size:Int)≤100:=by omega
       clear hx;go_wp2;go_ret;exact ⟨fQ Hf.out.symm,hb1⟩
     ·have Hf:=hide (PN h20 fun p x hpx=>Hin.out p x (by have:=(List.getElem?_eq_some_iff.1 hpx).1;omega) hpx)
      have hji:¬ (j:Int)<(ss[k]'hkc).length:=by omega
      go_wp2;go_round
      case rel =>
       refine ⟨k+1,by omega,by go_num,fun p s hp hps=>?_⟩;rcases Nat.lt_or_ge p k with h2 | h2
       ·exact Hall.out p s h2 hps
       ·obtain rfl:p=k:=by omega
        rw [List.getElem?_eq_getElem hkc] at hps;cases hps
        exact Hf.out
      case measure=>simp [intOf];omega
   ·have Hf:=hide (zH hkc (GH h20))
    have h20':¬ ((ss[k]'hkc).length:Int)≤20:=by omega
    have hki:(k:Int)<8:=by omega
    go_wp2;go_ret;exact ⟨fQ Hf.out.symm,hb1⟩
  ·have Hf:=hide (show qY ss=true from List.all_eq_true.2 fun s hs=>by
    obtain ⟨j,hj,rfl⟩:=List.getElem_of_mem hs
    exact Hall.out j _ (by omega) (List.getElem?_eq_getElem hj))
   have hki:¬ (k:Int)<8:=by omega
   go_wp2;go_ret;exact ⟨fQ Hf.out.symm,hb1⟩
theorem Strs.set {lo:Nat} {w:World} {v:Value} {s:List ByteArray} (h:Strs lo w v s) {p:Addr} {A:Option Addr} {n c:Nat} (hp:w.cell? p=some (.slice A n c)) (u:Value):Strs lo (w.setCell p u) v s:=by
 obtain ⟨B,d,rfl,hl,hr⟩:=h;refine ⟨B,d,rfl,hl,fun hn=>?_⟩;obtain ⟨ad,e,h1,h2,h3⟩:=hr hn;refine ⟨ad,e,h1,by simpa [World.setCell] using h2,fun j x hx=>?_⟩;have h4:=h3 j x hx;rw [World.cell?_setCell_other w p _ u ?_]
 ·exact h4
 ·intro e2
  rw [←e2,hp] at h4;rw [List.getElem?_map] at hx
  cases hs:s[j]? with
  | none=>rw [hs] at hx;cases hx
  | some y=>rw [hs] at hx;simp at hx;rw [←hx] at h4;cases h4
theorem iZ.set {lo:Nat} {w:World} {vs:List Value} {ss:List (List ByteArray)} (h:iZ lo w vs ss) {p:Addr} {A:Option Addr} {n c:Nat} (hp:w.cell? p=some (.slice A n c)) (u:Value):iZ lo (w.setCell p u) vs ss :=
 ⟨h.1,fun i v s h1 h2=>⟨(h.2 i v s h1 h2).1.set hp u,(h.2 i v s h1 h2).2⟩⟩
theorem iZ.put {lo:Nat} {w:World} {vs:List Value} {ss:List (List ByteArray)} (h:iZ lo w vs ss) {k:Nat} {v:Value} (hk:k<ss.length) (hv:Strs lo w v ss[k]):iZ lo w (vs.set k v) ss:=by
 refine ⟨by rw [List.length_set];exact h.1,fun i u s h1 h2=>?_⟩
 by_cases hi:i=k
 ·subst hi
  rw [List.getElem?_set_self (by rw [h.1];exact hk)] at h1;rw [List.getElem?_eq_getElem hk] at h2;cases h1
  cases h2
  exact ⟨hv,((h.at_ hk).choose_spec).2.2⟩
 ·rw [List.getElem?_set_ne (Ne.symm hi)] at h1
  exact h.2 i u s h1 h2
def uA (w:World) (g:Nat) (ss:List (List ByteArray)):Prop:=∃vs:List Value,Blk w g 22 vs.toArray∧iZ 0 w vs ss
theorem uA.below {w w':World} {g:Nat} {ss:List (List ByteArray)} (h:uA w g ss) (hb:Below w.heap.size w w'):uA w' g ss :=
 let ⟨vs,h1,h2⟩:=h;⟨vs,h1.below hb h1.lt,h2.below hb⟩
theorem uA.lt {w:World} {g:Nat} {ss:List (List ByteArray)} (h:uA w g ss):g<w.heap.size:=let ⟨_,h1,_⟩:=h;h1.lt
theorem uA.drewN {w:World} {g:Nat} {ss:List (List ByteArray)} (h:uA w g ss) (n:Nat):uA (w.drewN n) g ss:=h
theorem uA.at_ {w:World} {g:Nat} {ss:List (List ByteArray)} (h:uA w g ss) {k:Nat} (hk:k<ss.length):∃A c,w.cell? ⟨g,k,none⟩=some (.slice A ss[k].length c)∧Strs 0 w (.slice A ss[k].length c) ss[k]∧ss[k].length≤9223372036854775807:=by
 obtain ⟨vs,h1,h2⟩:=h;obtain ⟨v,hv,⟨A,c,rfl,hr⟩,hm⟩:=h2.at_ hk;exact ⟨A,c,by rw [h1.cell k];simpa using hv,⟨A,c,rfl,hr⟩,hm⟩
end Go.Proofs.YtnhekaepgpbijaaGreatDoor

namespace Go.Proofs.YtnhekaepgpbijaaGreatDoor
open Go.RowKit Go.ChangeShapes Go.WideShapes Go.Sort
theorem qC {lo:Nat} {v:Value} {ss:List ByteArray} {w:World} (h:Strs lo w v ss) (hb:ss.length≤8796093022207) :
  Calls Tryz.prog 143 #[v] w fun e w'=>∃v',e=.returned v'∧w'.ownsRow w.heap.size 9 1 v' ss.length (ss.map Value.string)∧Below w.heap.size w w':=by
 obtain ⟨A,c,rfl,hr⟩:=h;obtain ⟨i0,hi,hz0,hz1,hz2⟩:=info_parts Lg;have q:∀(w:World) (a:Option Addr) (n c n' c':Nat),(binOp .eql 22 (.slice a n c) (.slice none n' c')).run Tryz.prog w=.ok (.bool a.isNone) w:=fun w a n c n' c'=>Lib.run_eql_slice_nil w _ _ a n c n' c' Tryz.underlying22
 cases A with
 | none =>
  have h0:ss=[]:=by
   rcases Nat.eq_zero_or_pos ss.length with h0 | h0
   ·exact List.eq_nil_of_length_eq_zero h0
   ·obtain ⟨ad,h,_⟩:=hr.2 h0
    cases h
  subst h0;go_enter Tryz.func143,Tryz.ntmps143;go_wp2;go_ret;exact ⟨_,rfl,World.ownsRow_nil _ _ _ _,Below.refl _ _⟩
 | some ad =>
  have hr':=(hr.alloc (.cells #[] 9)).reads
  have hone:∀u∈ss.map Value.string,u.oneCell'=true:=by
   intro u hu;obtain ⟨s,_,rfl⟩:=List.mem_map.1 hu;rfl
  have Hone:=hide hone;have Hr:=hide hr';clear hone hr' hr;go_enter Tryz.func143,Tryz.ntmps143;go_wp2_with (at_builtin;refine aA _ rfl (.tmp 5) (.tmp 6) _ rfl w.heap.size 9 i0 (.string ByteArray.empty) 1 16 Tryz.underlying22 hi hz0 hz1 hz2 rfl (by decide) _ 0 [] rfl (World.ownsRow_made w #[] 0 (Nat.le_refl _) (Nat.zero_le _) (by simp)) (w.heap.size+1) (some ad) ss.length c (ss.map Value.string) rfl (by simpa using Hr.out) Hone.out (by unfold maxLen;omega) (by omega) (by simp) ?_;intro v' w1 hown hgrow _);rw [Nat.zero_add,List.nil_append] at hown;go_wp2;go_ret;refine ⟨v',rfl,hown,?_⟩;exact ((Below.refl _ w).alloc (Nat.le_refl _) _).grown hgrow (by simp) (by rintro k ⟨⟩;exact Nat.le_refl _)
def bss (l:List (List UInt8)):List ByteArray:=l.map bs
theorem bG.strs {lo:Nat} {w:World} {v:Value} {ls:List (List UInt8)} (h:bG lo w v ls):Strs lo w v (bss ls):=by
 obtain ⟨A,c,rfl,_,hS⟩:=h;exact ⟨A,c,by rw [bss,List.length_map],by rw [bss,List.length_map];exact hS⟩
theorem bG.setSl {lo:Nat} {w:World} {v:Value} {ls:List (List UInt8)} (h:bG lo w v ls) {p:Addr} {A:Option Addr} {n c:Nat} (hp:w.cell? p=some (.slice A n c)) (u:Value):bG lo (w.setCell p u) v ls:=by
 have h2:=h.strs.set hp u;obtain ⟨B,d,rfl,hc,_⟩:=h;exact yN h2 hc
theorem bG.belowW {lo:Nat} {w w':World} {v:Value} {ls:List (List UInt8)} (h:bG lo w v ls) (hb:Below w.heap.size w w'):bG lo w' v ls:=by
 obtain ⟨A,c,e,hc,hS⟩:=h;exact ⟨A,c,e,hc,hS.below hb⟩
structure PL8 (w:World) (g:Nat) (ls:List (List (List UInt8))) (k:Nat) (wr:World):Prop where
 bel:Below w.heap.size w wr
 row:∃vs:List Value,Blk wr g 22 vs.toArray∧iZ 0 wr vs (ls.map bss)∧(0<k→∃v0 l0 mid,vs[0]?=some v0∧ls[0]?=some l0∧wr.ownsRow (g+1) 9 1 v0 l0.length ((l0.map bs).map Value.string)∧(∀b,v0.ownBlock=some b→b<mid)∧g<mid∧mid≤wr.heap.size ∧
  ∀i v l,0<i→i<k→vs[i]?=some v→ls[i]?=some l→bG mid wr v l)
theorem PL8.step {w wr w2:World} {g k:Nat} {ls:List (List (List UInt8))} (H:PL8 w g ls k wr) (hk:k<ls.length) {v':Value} (ho:w2.ownsRow wr.heap.size 9 1 v' (bss ls[k]).length ((bss ls[k]).map Value.string)) (hb2:Below wr.heap.size wr w2) (hg:w.heap.size≤g):PL8 w g ls (k+1) (w2.setCell ⟨g,k,none⟩ v'):=by
 obtain ⟨vs,hB,hA,h0⟩:=H.row;have hB2:=hB.below hb2 hB.lt;have hA2:=hA.below hb2;have hkm:k<(ls.map bss).length:=by rw [List.length_map];exact hk
 have hgk:(ls.map bss)[k]=bss ls[k]:=List.getElem_map _;obtain ⟨v,hv,hst,hm⟩:=hA.at_ hkm;obtain ⟨A,c,rfl,hr⟩:=hst;have hc2:w2.cell? ⟨g,k,none⟩=some (.slice A (ls.map bss)[k].length c):=by rw [hB2.cell k];simpa using hv
 have hN:bG wr.heap.size w2 v' ls[k]:=by
  obtain ⟨A',c',rfl⟩:=di ho;have hl:(bss ls[k]).length=ls[k].length:=by rw [bss,List.length_map]
  rw [hl] at ho ⊢;exact pu ho rfl
 have hlk:k<vs.length:=by rw [hA.1];exact hkm
 have hgl:=hB.lt;refine ⟨(H.bel.trans (hb2.mono H.bel.size)).setCell (p:=⟨g,k,none⟩) hg v',vs.set k v',?_,?_,fun _=>?_⟩
 ·have:=hB2.set_ k v'
  simpa using this
 ·refine (hA2.set hc2 v').put hkm ?_
  rw [hgk];exact (hN.mono (Nat.zero_le _)).strs.set hc2 v'
 ·by_cases hk0:k=0
  ·subst hk0
   refine ⟨v',ls[0],w2.heap.size,List.getElem?_set_self hlk,List.getElem?_eq_getElem hk,?_,fun b hb=>(ho.lt b hb).2,Nat.lt_of_lt_of_le hgl hb2.size,by simp [World.setCell],fun i v l h1 h2=>by omega⟩;have ho2:=BR (ho.mono (Nat.succ_le_of_lt hgl)) hB2 (by decide) 0 v';have hl:(bss ls[0]).length=ls[0].length:=by rw [bss,List.length_map]
   rw [hl] at ho2;exact ho2
  ·obtain ⟨v0,l0,mid,e0,e1,ho0,hlt,hgm,hmz,hre⟩:=h0 (by omega)
   refine ⟨v0,l0,mid,by rw [List.getElem?_set_ne hk0];exact e0,e1,BR (bP ho0 hb2) hB2 (by decide) k v',hlt,hgm,by simpa [World.setCell] using Nat.le_trans hmz hb2.size,fun i v l h1 h2 h3 h4=>?_⟩
   by_cases hik:i=k
   ·subst hik
    rw [List.getElem?_set_self hlk] at h3;rw [List.getElem?_eq_getElem hk] at h4;cases h3
    cases h4
    exact (hN.mono hmz).setSl hc2 _
   ·rw [List.getElem?_set_ne (Ne.symm hik)] at h3
    exact ((hre i v l h1 (by omega) h3 h4).belowW hb2).setSl hc2 _
theorem Gx {v0 v1 v2 v3 v4 v5 v6 v7:Value} {ls:List (List (List UInt8))} {w:World} (h:iZ 0 w [v0,v1,v2,v3,v4,v5,v6,v7] (ls.map bss)) (hb:∀l∈ls,l.length≤1000000) :
  Calls Tryz.prog 142 #[.agg #[v0,v1,v2,v3,v4,v5,v6,v7]] w fun e w'=>∃g,e=.returned (.slice (some ⟨g,0,none⟩) 8 8)∧w.heap.size≤g∧PL8 w g ls 8 w':=by
 have hl:ls.length=8:=by have:=h.1;rw [List.length_map] at this;exact this.symm
 obtain ⟨⟨A0,n0,c0,rfl⟩,⟨A1,n1,c1,rfl⟩,⟨A2,n2,c2,rfl⟩,⟨A3,n3,c3,rfl⟩,⟨A4,n4,c4,rfl⟩,⟨A5,n5,c5,rfl⟩,⟨A6,n6,c6,rfl⟩,⟨A7,n7,c7,rfl⟩⟩:=h.sl8;have Hb:=hide hb;clear hb;have hk0:=Blk.new (w.alloc (.cells #[.slice A0 n0 c0,.slice A1 n1 c1,.slice A2 n2 c2,.slice A3 n3 c3,.slice A4 n4 c4,.slice A5 n5 c5,.slice A6 n6 c6,.slice A7 n7 c7] 24)) 22 #[.slice A0 n0 c0,.slice A1 n1 c1,.slice A2 n2 c2,.slice A3 n3 c3,.slice A4 n4 c4,.slice A5 n5 c5,.slice A6 n6 c6,.slice A7 n7 c7];have hbel:Below w.heap.size w ((w.alloc (.cells #[.slice A0 n0 c0,.slice A1 n1 c1,.slice A2 n2 c2,.slice A3 n3 c3,.slice A4 n4 c4,.slice A5 n5 c5,.slice A6 n6 c6,.slice A7 n7 c7] 24)).alloc (.cells #[.slice A0 n0 c0,.slice A1 n1 c1,.slice A2 n2 c2,.slice A3 n3 c3,.slice A4 n4 c4,.slice A5 n5 c5,.slice A6 n6 c6,.slice A7 n7 c7] 22)):=by exact aa
 rw [World.size_alloc] at hk0;have Hr0:=hide (show PL8 w (w.heap.size+1) ls 0 _ from ⟨hbel,_,hk0,(h.alloc (.cells #[.slice A0 n0 c0,.slice A1 n1 c1,.slice A2 n2 c2,.slice A3 n3 c3,.slice A4 n4 c4,.slice A5 n5 c5,.slice A6 n6 c6,.slice A7 n7 c7] 24)).alloc (.cells #[.slice A0 n0 c0,.slice A1 n1 c1,.slice A2 n2 c2,.slice A3 n3 c3,.slice A4 n4 c4,.slice A5 n5 c5,.slice A6 n6 c6,.slice A7 n7 c7] 22),fun h=>absurd h (by omega)⟩);clear hk0 hbel h;go_enter Tryz.func142,Tryz.ntmps142;go_wp2
 go_loopw [24,4] (fun i _ wr=>∃k:Nat,k≤8∧i=.int .i64 k∧Hid (PL8 w (w.heap.size+1) ls k wr)) (fun i _ _=>8 - (intOf i).toNat)
 case atStart=>exact ⟨0,by omega,rfl,Hr0⟩
 case round =>
  obtain ⟨k,hk8,rfl,HP⟩:=hrel
  by_cases hlt:k<8
  ·have hkc:k<ls.length:=by omega
   have hkm:k<(ls.map bss).length:=by rw [List.length_map];exact hkc
   have hgk:(ls.map bss)[k]=bss ls[k]:=List.getElem_map _;obtain ⟨vs,hB,hA,_⟩:=HP.out.row;obtain ⟨A,c,hc,hst,hm⟩:=uA.at_ ⟨vs,hB,hA⟩ hkm;have hlen:(bss ls[k]).length≤8796093022207:=by rw [bss,List.length_map];have:=Hb.out (ls[k]'hkc) (List.getElem_mem hkc);omega
   rw [hgk] at hc hst;have hki:(k:Int)<8:=by omega
   have hgl:=hB.lt;have hfz:=hB.frozen k;have HC:=hide (qC hst hlen);have HS:=hide (fun (w2:World) (v':Value) (ho:w2.ownsRow wr.heap.size 9 1 v' (bss ls[k]).length ((bss ls[k]).map Value.string)) (hb2:Below wr.heap.size wr w2)=>HP.out.step hkc ho hb2 (Nat.le_succ _));have HB:=hide hB;generalize hlL:(bss ls[k]).length=nL at hc HC HS;clear hA hst hgk hlen hlL hB hm;go_wp2_with (go_at_call 143;refine HC.out.mono ?_;rintro e w2 ⟨v',rfl,ho,hb2⟩;obtain ⟨A2,c2,rfl⟩:=di ho;have hB2:=HB.out.below hb2 hgl;have hfz2:=hB2.frozen k;have hc2:=(hb2.cell (p:=⟨w.heap.size+1,k,none⟩) hgl).trans hc;have HN:=hide (HS.out w2 _ ho hb2));go_roundw
   case rel=>exact ⟨k+1,by omega,by go_num,HN⟩
   case measure=>simp [intOf];omega
  ·have hki:¬ (k:Int)<8:=by omega
   have hk8':k=8:=by omega
   subst hk8';go_wp2;go_ret;exact ⟨_,rfl,Nat.le_succ _,HP.out⟩
def Sm (a b c d:Bool):Nat→List (List UInt8)
 | 0=>[]
 | 1=>vP a Gp
 | 2=>vP a Gp++vP b Nj
 | 3=>(vP a Gp++vP b Nj)++vP c Q3
 | _=>((vP a Gp++vP b Nj)++vP c Q3)++vP d Ut
structure Uy (w:World) (bb:Nat) (a b c d:Bool) (i:Nat) (A:Option Addr) (n cp:Nat) (wr:World):Prop where
 bel:Below w.heap.size w wr
 fl:Blk wr bb 4 #[.bool a,.bool b,.bool c,.bool d]
 len:n=(Sm a b c d i).length
 own:wr.ownsRow (bb+1) 9 1 (.slice A n cp) n (((Sm a b c d i).map bs).map Value.string)
end Go.Proofs.YtnhekaepgpbijaaGreatDoor

namespace Go.Proofs.YtnhekaepgpbijaaGreatDoor
structure UE where
 ck:List UInt8
 kex:List (List UInt8)
 more:List (List (List UInt8))
 a:Bool
 b:Bool
 c:Bool
 d:Bool
 fo:Bool
end Go.Proofs.YtnhekaepgpbijaaGreatDoor

namespace Go.Proofs.YtnhekaepgpbijaaGreatDoor
open Go.RowKit Go.ChangeShapes Go.WideShapes Go.Sort
def RD (w:World) (vs:List Value) (ls:List (List (List UInt8))):Prop:=vs.length=ls.length∧∀(i:Nat) v l,vs[i]?=some v→ls[i]?=some l→Txc w v l∧l.length≤1000000
theorem RD.below {w w':World} {vs:List Value} {ls:List (List (List UInt8))} (h:RD w vs ls) (hb:Below w.heap.size w w'):RD w' vs ls :=
 ⟨h.1,fun i v l h1 h2=>⟨(h.2 i v l h1 h2).1.below hb,(h.2 i v l h1 h2).2⟩⟩
theorem Inn.setSl {lo:Nat} {v:Value} {w:World} {lv:Value} {ls:List (List UInt8)} (h:Inn lo v w lv ls) {p:Addr} {A:Option Addr} {n c:Nat} (hp:w.cell? p=some (.slice A n c)) (u:Value):Inn lo v (w.setCell p u) lv ls:=by
 obtain ⟨B,d,rfl,hc,hS,hn⟩:=h;obtain ⟨B',d',e,_,hS'⟩:=bG.setSl (lo:=lo) (ls:=ls) ⟨B,d,rfl,hc,hS⟩ hp u;obtain rfl:B=B':=by injection e
 exact ⟨B,d,rfl,hc,hS',hn⟩
def Tn (w:World) (h:Nat) (vs:List Value):Prop:=∃cur:Array Value,Blk w h 22 cur∧∀(i:Nat) v,vs[i]?=some v→cur[i]?=some v
theorem Tn.at_ {w:World} {h:Nat} {vs:List Value} (t:Tn w h vs) {i:Nat} {v:Value} (hi:vs[i]?=some v):w.cell? ⟨h,i,none⟩=some v:=by
 obtain ⟨cur,hb,hc⟩:=t;rw [hb.cell i,hc i v hi]
theorem xH.below {lo mb:Nat} {num:Int} {A:Option Addr} {n c:Nat} {zs:List (Fld × Value)} {w w':World} (h:xH lo mb num A n c zs w) (hb:Below w.heap.size w w'):xH lo mb num A n c zs w' :=
 ⟨h.len,h.m.below hb h.m.lt,bP h.own hb⟩
theorem xH.grown {lo mb:Nat} {num:Int} {A:Option Addr} {n c:Nat} {zs:List (Fld × Value)} {w w':World} {row:Option Nat} (h:xH lo mb num A n c zs w) (hg:w.grownBy w' row) (h1:some mb≠row) (h2:(Value.slice A n c).ownBlock=none∨(Value.slice A n c).ownBlock≠row):xH lo mb num A n c zs w' :=
 ⟨h.len,h.m.grown hg h1,h.own.kept hg h2⟩
def xh (w:World) (g:Nat) (ls:List (List (List UInt8))):Prop:=ls.length=8∧(∀l∈ls,l.length≤1000000)∧∀i l,ls[i]?=some l→∃A c,w.cell? ⟨g,i,none⟩=some (.slice A l.length c)∧Txs w (.slice A l.length c) l
theorem xh.below {w w':World} {g:Nat} {ls:List (List (List UInt8))} (h:xh w g ls) (hb:Below w.heap.size w w'):xh w' g ls :=
 ⟨h.1,h.2.1,fun i s hi=>let ⟨A,c,h1,h2⟩:=h.2.2 i s hi;⟨A,c,(hb.cell (World.block_lt_of_cell? w _ h1)).trans h1,h2.below hb⟩⟩
theorem Mr {w:World} {B:Nat} {v:Value} {l:List (List UInt8)} (h:w.ownsRow B 9 1 v (bss l).length ((bss l).map Value.string)):bG B w v l:=by
 obtain ⟨A',c',rfl⟩:=di h;have hl:(bss l).length=l.length:=by rw [bss,List.length_map]
 rw [hl] at h ⊢;exact pu h rfl
theorem PZ {lo:Nat} {w:World} {v:Value} {l:List (List UInt8)} (h:bG lo w v l):∃B m d,m=l.length∧v=.slice B m d:=by
 obtain ⟨A,c,e,_⟩:=h;exact ⟨A,_,c,rfl,e⟩
theorem Uo {w:World} {r:Nat} {t:TypeId} {o0 o1 o2 o3 o4 o5 o6 o7:Value} (h:Blk w r t #[o0,o1,o2,o3,o4,o5,o6,o7]) (v0 v1 v2 v3 v4 v5 v6 v7:Value) :
  Blk (((((((((w.setCell ⟨r,0,none⟩ v0).setCell ⟨r,1,none⟩ v1).setCell ⟨r,2,none⟩ v2).setCell ⟨r,3,none⟩ v3).setCell ⟨r,4,none⟩ v4).setCell ⟨r,5,none⟩ v5).setCell ⟨r,6,none⟩ v6).setCell ⟨r,7,none⟩ v7)) r t #[v0,v1,v2,v3,v4,v5,v6,v7]:=by
 have h1:=((((((((h.set_ 0 v0).set_ 1 v1).set_ 2 v2).set_ 3 v3).set_ 4 v4).set_ 5 v5).set_ 6 v6).set_ 7 v7)
 simpa using h1
theorem Uh {B:Nat} {w0 w:World} {r:Nat} (h:Below B w0 w) (hr:B≤r) (v0 v1 v2 v3 v4 v5 v6 v7:Value):Below B w0 (((((((((w.setCell ⟨r,0,none⟩ v0).setCell ⟨r,1,none⟩ v1).setCell ⟨r,2,none⟩ v2).setCell ⟨r,3,none⟩ v3).setCell ⟨r,4,none⟩ v4).setCell ⟨r,5,none⟩ v5).setCell ⟨r,6,none⟩ v6).setCell ⟨r,7,none⟩ v7)) :=
 ((((((((h.setCell (p:=⟨r,0,none⟩) hr v0).setCell (p:=⟨r,1,none⟩) hr v1).setCell (p:=⟨r,2,none⟩) hr v2).setCell (p:=⟨r,3,none⟩) hr v3).setCell (p:=⟨r,4,none⟩) hr v4).setCell (p:=⟨r,5,none⟩) hr v5).setCell (p:=⟨r,6,none⟩) hr v6).setCell (p:=⟨r,7,none⟩) hr v7)
theorem TZ {R:Value→List (List UInt8)→Prop} {v0 v1 v2 v3 v4 v5 v6 v7:Value} {ls:List (List (List UInt8))} (h:ls.length=8) (h0:R v0 (ls[0]'(by omega))) (h1:R v1 (ls[1]'(by omega))) (h2:R v2 (ls[2]'(by omega))) (h3:R v3 (ls[3]'(by omega))) (h4:R v4 (ls[4]'(by omega))) (h5:R v5 (ls[5]'(by omega))) (h6:R v6 (ls[6]'(by omega))) (h7:R v7 (ls[7]'(by omega))) :
  ∀(i:Nat) v l,([v0,v1,v2,v3,v4,v5,v6,v7]:List Value)[i]?=some v→ls[i]?=some l→R v l:=by
 match ls,h with
 | [l0,l1,l2,l3,l4,l5,l6,l7],_ =>
  intro i v l hv hl
  match i,hv,hl with
  | 0,hv,hl=>cases hv;cases hl;exact h0
  | 1,hv,hl=>cases hv;cases hl;exact h1
  | 2,hv,hl=>cases hv;cases hl;exact h2
  | 3,hv,hl=>cases hv;cases hl;exact h3
  | 4,hv,hl=>cases hv;cases hl;exact h4
  | 5,hv,hl=>cases hv;cases hl;exact h5
  | 6,hv,hl=>cases hv;cases hl;exact h6
  | 7,hv,hl=>cases hv;cases hl;exact h7
  | n+8,hv,_=>simp at hv
end Go.Proofs.YtnhekaepgpbijaaGreatDoor
