/-
  Several of my texts in one: RRead, RefG, ReX, PrfG.
-/
import Derived.Test.YtihfpbaaiedfbaaGreatDoorKRGetXG
import Derived.Test.YtihfpbaaiedfbaaGreatDoorKDecWG
import Derived.Test.YtihfpbaaiedfbaaGreatDoorKGetsG
import Derived.Test.YtihfpbaaiedfbaaGreatDoorKMkrG
import Derived.Test.YtihfpbaaiedfbaaGreatDoorKRPutG
import Derived.Test.YtihfpbaaiedfbaaGreatDoorKCfAG
import Derived.Deep.RegionWith
import Derived.Deep.Onto
set_option linter.unusedVariables false
set_option linter.unusedSimpArgs false
set_option maxHeartbeats 40000000
set_option maxRecDepth 100000
namespace Go.Proofs.YtihfpbaaiedfbaaGreatDoor
open Go.RowKit Go.ChangeShapes Go.WideShapes Go.Sort
def digB:ByteArray:=⟨#[48,49,50,51,52,53,54,55,56,57]⟩
theorem place_1:∀i<10,(digB.extract i (i+1)++(⟨#[32]⟩:ByteArray)).data.toList=Lib.decDigits i++[32]:=by decide +kernel
theorem place_2:∀i<100,10≤i→(digB.extract (i / 10) (i / 10+1)++digB.extract (i % 10) (i % 10+1)++(⟨#[32]⟩:ByteArray)).data.toList=Lib.decDigits i++[32]:=by decide +kernel
theorem place_len:∀i<100,(atL [Lib.decDigits i]).length≤10:=by decide +kernel
theorem rplace_any (i:Nat) (hi:i<100) (w:World):Calls Tryz.prog 61 #[.int .i64 i] w (Says (atL [Lib.decDigits i]) w):=by
 have hat:atL [Lib.decDigits i]=Lib.decDigits i++[32]:=by simp [atL]
 rw [hat]
 have hd10:digB.size=10:=rfl
 by_cases h10:i<10
 ·have h10':(i:Int)<10:=by omega
  have HE:=hide (bs_eq (place_1 i h10))
  have hw:IntKind.i64.wrap ((i:Int)+1)=((i+1:Nat):Int):=by rw [wrap_small _ (by omega) (by omega)];omega
  clear hat
  go_enter Tryz.func61,Tryz.ntmps61
  rw [show (⟨#[48,49,50,51,52,53,54,55,56,57]⟩:ByteArray)=digB from rfl]
  go_wp2_with fail
  go_ret
  exact ⟨by rw [←HE.out];rfl,Below.refl _ _⟩
 ·have h10':¬ (i:Int)<10:=by omega
  have HE:=hide (bs_eq (place_2 i hi (by omega)))
  have hq:(i:Int).tdiv 10=((i / 10:Nat):Int):=by rw [Int.tdiv_eq_ediv_of_nonneg (by omega)];omega
  have hr:(i:Int).tmod 10=((i % 10:Nat):Int):=by rw [Int.tmod_eq_emod_of_nonneg (by omega)];omega
  obtain ⟨a,ha⟩:∃a,a=i / 10:=⟨_,rfl⟩
  obtain ⟨b,hb⟩:∃b,b=i % 10:=⟨_,rfl⟩
  rw [←ha] at hq HE
  rw [←hb] at hr HE
  have hw1:IntKind.i64.wrap ((a:Int)+1)=((a+1:Nat):Int):=by rw [wrap_small _ (by omega) (by omega)];omega
  have hw2:IntKind.i64.wrap ((b:Int)+1)=((b+1:Nat):Int):=by rw [wrap_small _ (by omega) (by omega)];omega
  have ha10:a<10:=by omega
  have hb10:b<10:=by omega
  clear hat hi ha hb
  go_enter Tryz.func61,Tryz.ntmps61
  rw [show (⟨#[48,49,50,51,52,53,54,55,56,57]⟩:ByteArray)=digB from rfl]
  go_wp2_with fail
  go_region
  go_wp2_with fail
  go_ret
  exact ⟨by rw [←HE.out];rfl,(Below.refl _ _).drew⟩
theorem two_fin {w:World} {r:Nat} {t:TypeId} {o0 o1:Value} (h:Blk w r t #[o0,o1]) (v0 v1:Value):Blk ((w.setCell ⟨r,0,none⟩ v0).setCell ⟨r,1,none⟩ v1) r t #[v0,v1]:=by
 have h1:=(h.set_ 0 v0).set_ 1 v1
 simpa using h1
structure RReadI (w:World) (f:ByteArray) (R:RdR) (i:Nat) (A:Option Addr) (c:Nat) (wr:World):Prop where
 bel:Below w.heap.size w wr
 eb:Blk wr w.heap.size 44 #[.int .i64 0,.string ⟨#[]⟩]
 st:∃zs r',FOwn (w.heap.size+2) wr A i c zs∧Rd3 wr (w.heap.size+1) r' 0∧r'.length≤1000000∧R=consAll (zs.map (·.1)) (readFs (f.data.toList.drop i) r' i)
end Go.Proofs.YtihfpbaaiedfbaaGreatDoor
namespace Go.Proofs.YtihfpbaaiedfbaaGreatDoor
open Go.RowKit
def table:List (Int × ByteArray × List ByteArray):=[
 (1,⟨#[100,105,115,99,111,110,110,101,99,116]⟩,[⟨#[117,115,115]⟩]),
 (2,⟨#[105,103,110,111,114,101]⟩,[⟨#[115]⟩]),
 (3,⟨#[117,110,105,109,112,108,101,109,101,110,116,101,100]⟩,[⟨#[117]⟩]),
 (4,⟨#[100,101,98,117,103]⟩,[⟨#[98,115,115]⟩]),
 (5,⟨#[115,101,114,118,105,99,101,45,114,101,113,117,101,115,116]⟩,[⟨#[115]⟩]),
 (6,⟨#[115,101,114,118,105,99,101,45,97,99,99,101,112,116]⟩,[⟨#[115]⟩]),
 (7,⟨#[101,120,116,45,105,110,102,111]⟩,[⟨#[101]⟩]),
 (20,⟨#[107,101,120,105,110,105,116]⟩,[⟨#[99,110,110,110,110,110,110,110,110,110,110,98,117]⟩]),
 (21,⟨#[110,101,119,107,101,121,115]⟩,[⟨#[]⟩]),
 (30,⟨#[101,99,100,104,45,105,110,105,116]⟩,[⟨#[116]⟩]),
 (31,⟨#[114,101,112,108,121,45,111,114,45,103,114,111,117,112]⟩,[⟨#[116,116,116]⟩,⟨#[109,109]⟩]),
 (32,⟨#[103,101,120,45,105,110,105,116]⟩,[⟨#[116]⟩]),
 (33,⟨#[103,101,120,45,114,101,112,108,121]⟩,[⟨#[116,116,116]⟩]),
 (34,⟨#[103,101,120,45,114,101,113,117,101,115,116]⟩,[⟨#[117,117,117]⟩]),
 (50,⟨#[117,115,101,114,97,117,116,104,45,114,101,113,117,101,115,116]⟩,[⟨#[115,115,115]⟩,⟨#[115,115,115,98,115,116]⟩,⟨#[115,115,115,98,115,116,116]⟩]),
 (51,⟨#[117,115,101,114,97,117,116,104,45,102,97,105,108,117,114,101]⟩,[⟨#[110,98]⟩]),
 (52,⟨#[117,115,101,114,97,117,116,104,45,115,117,99,99,101,115,115]⟩,[⟨#[]⟩]),
 (53,⟨#[117,115,101,114,97,117,116,104,45,98,97,110,110,101,114]⟩,[⟨#[115,115]⟩]),
 (60,⟨#[117,115,101,114,97,117,116,104,45,112,107,45,111,107]⟩,[⟨#[115,116]⟩])]

def RowsAt (lo:Nat) (w:World) (v:Value) (l:List (Int × ByteArray × List ByteArray)):Prop :=
 ∃A c,v=.slice A l.length c∧∀i (h:i<l.length),∃ad fv,A=some ad∧lo≤ad.block∧ad.block<w.heap.size∧w.cell? (ad.add (i*3))=some (.int .i64 l[i].1)∧w.cell? (ad.add (i*3+1))=some (.string l[i].2.1)∧w.cell? (ad.add (i*3+2))=some fv∧Strs lo w fv l[i].2.2
def rowCells:Nat→List (Int × ByteArray × List ByteArray)→List Value
 | _,[]=>[]
 | B,r :: l=>.int .i64 r.1 :: .string r.2.1 :: .slice (some ⟨B,0,none⟩) r.2.2.length r.2.2.length :: rowCells (B+1) l
theorem rowCells_at (B:Nat) (l:List (Int × ByteArray × List ByteArray)) (i:Nat) (h:i<l.length):(rowCells B l)[i*3]?=some (.int .i64 l[i].1)∧(rowCells B l)[i*3+1]?=some (.string l[i].2.1) ∧
  (rowCells B l)[i*3+2]?=some (.slice (some ⟨B+i,0,none⟩) l[i].2.2.length l[i].2.2.length):=by
 induction l generalizing B i with
 | nil=>simp at h
 | cons r l ih =>
  cases i with
  | zero=>simp [rowCells]
  | succ i =>
   have:=ih (B+1) i (by simpa using h)
   simp only [Nat.add_mul,Nat.one_mul,rowCells,List.getElem_cons_succ]
   refine ⟨this.1,this.2.1,?_⟩
   rw [show B+(i+1)=B+1+i from by omega]
   exact this.2.2
def rowObjs (l:List (Int × ByteArray × List ByteArray)):List Obj:=l.map fun r=>Obj.cells (r.2.2.map Value.string).toArray 9
def tableObjs (B:Nat):List Obj:=rowObjs table++[Obj.cells (rowCells B table).toArray 129]
theorem table_fin (w:World):RowsAt w.heap.size (allocs w (tableObjs w.heap.size)) (.slice (some ⟨w.heap.size+19,0,none⟩) 19 19) table∧Below w.heap.size w (allocs w (tableObjs w.heap.size)):=by
 refine ⟨⟨_,_,rfl,fun i h=>?_⟩,allocs_below _ _⟩
 have h19:i<19:=h
 have hb:Blk (allocs w (tableObjs w.heap.size)) (w.heap.size+19) 129 (rowCells w.heap.size table).toArray:=allocs_at w (tableObjs w.heap.size) (k:=19) rfl
 obtain ⟨h1,h2,h3⟩:=rowCells_at w.heap.size table i h
 have hs:Blk (allocs w (tableObjs w.heap.size)) (w.heap.size+i) 9 (table[i].2.2.map Value.string).toArray:=by
  refine allocs_at w (tableObjs w.heap.size) (k:=i) ?_
  rw [tableObjs,List.getElem?_append_left (by simpa [rowObjs] using h),rowObjs,List.getElem?_map,List.getElem?_eq_getElem h]
  rfl
 refine ⟨_,_,rfl,Nat.le_add_right _ _,hb.lt,?_,?_,?_,hs.strs (Nat.le_add_right _ _) table[i].2.2.length⟩
 ·rw [add_zero_,hb.cell,List.getElem?_toArray];exact h1
 ·rw [add_zero_,hb.cell,List.getElem?_toArray];exact h2
 ·rw [add_zero_,hb.cell,List.getElem?_toArray];exact h3
theorem table_any (w:World):Calls Tryz.prog 99 #[] w fun e w'=>∃v,e=.returned v∧RowsAt w.heap.size w' v table∧Below w.heap.size w w':=by
 go_enter Tryz.func99,Tryz.ntmps99
 go_wp2
 go_ret
 exact ⟨_,rfl,table_fin w⟩
def rowOf (n:Int):Int × ByteArray × List ByteArray:=(table.find? (fun r=>r.1 == n)).getD (0,⟨#[]⟩,[])
theorem of_any (n:Int) (w:World):Calls Tryz.prog 59 #[.int .i64 n] w fun e w'=>∃fv,e=.returned (.agg #[.int .i64 (rowOf n).1,.string (rowOf n).2.1,fv])∧Strs w.heap.size w' fv (rowOf n).2.2∧Below w.heap.size w w':=by
 have hl:table.length=19:=rfl
 have Hl:=hide hl
 clear hl
 go_enter Tryz.func59,Tryz.ntmps59
 go_wp2_with (go_at_call 99;refine (table_any _).mono ?_;rintro e w1 ⟨v,rfl,⟨A,c,rfl,hr⟩,hb⟩;rw [Hl.out])
 obtain ⟨hbc,hbf⟩:=bcell hb
 have hbz:=hb.size
 simp only [World.size_alloc] at hbz hr
 have hb0:Below w.heap.size w w1:=((Below.refl _ _).alloc (Nat.le_refl _) _).trans (hb.mono (by simp))
 go_loop [4] (fun i=>∃k:Nat,k≤19∧i=.int .i64 k∧∀j (h:j<table.length),j<k→table[j].1≠n) (fun i=>19 - (intOf i).toNat)
 case atStart=>exact ⟨0,Nat.zero_le _,rfl,by simp⟩
 case round =>
  obtain ⟨k,hk,rfl,hno⟩:=hrel
  by_cases hlt:k<19
  ·obtain ⟨ad,fv,rfl,_,hlo,h1,h2,h3,hs⟩:=hr k (by rw [Hl.out];exact hlt)
   generalize hk':table[k]'(by rw [Hl.out];exact hlt)=r at h1 h2 h3 hs
   have h2':=cell_off (j:=0) h2
   have h3':=cell_off (j:=1) h3
   by_cases hm:r.1=n
   ·have hro:rowOf n=r:=by
     have:table.find? (fun r=>r.1 == n)=some r:=by
      rw [List.find?_eq_some_iff_getElem]
      exact ⟨by simpa using hm,k,by rw [Hl.out];exact hlt,hk',fun j hj=>by simpa using hno j _ hj⟩
     simp [rowOf,this]
    have Hro:=hide hro
    have Hk:=hide hk'
    clear hro hk' hno
    obtain ⟨A',c',rfl,hr'⟩:=hs
    go_wp2
    refine bodyPost_ret (v:=.agg #[.int .i64 n,.string r.2.1,.slice A' r.2.2.length c']) (by simp [results,Tryz.results59,go_sem,hbc]) rfl ⟨.slice A' r.2.2.length c',?_,?_,?_⟩
    ·rw [Hro.out,hm]
    ·rw [Hro.out]
     exact ⟨_,_,rfl,(((hr'.setCell (Nat.lt_succ_self _) _).setCell (Nat.lt_succ_self _) _).setCell (Nat.lt_succ_self _) _).mono (Nat.le_succ _)⟩
    ·exact (((hb0.setCell (Nat.le_refl _) _).setCell (Nat.le_refl _) _).setCell (Nat.le_refl _) _)
   ·have hno':∀j (h:j<table.length),j<k+1→table[j].1≠n:=by
     intro j h hj
     by_cases hjk:j=k
     ·subst hjk
      rw [hk']
      exact hm
     ·exact hno j h (by omega)
    have Hno:=hide hno'
    clear hk' hno hno'
    go_wp2
    go_round
    case rel=>exact ⟨k+1,hlt,by go_num,Hno.out⟩
    case measure=>simp [intOf];omega
  ·have hro:rowOf n=(0,⟨#[]⟩,[]):=by
    have:table.find? (fun r=>r.1 == n)=none:=by
     rw [List.find?_eq_none]
     intro s hs
     obtain ⟨j,hj,rfl⟩:=List.getElem_of_mem hs
     have h19:=Hl.out
     simpa using hno j hj (by omega)
    simp [rowOf,this]
   have Hro:=hide hro
   clear hro hno
   go_wp2
   refine bodyPost_ret (v:=.agg #[.int .i64 0,.string ⟨#[]⟩,.slice none 0 0]) (by simp [results,Tryz.results59,go_sem,hbc]) rfl ⟨.slice none 0 0,?_,?_,?_⟩
   ·rw [Hro.out]
   ·rw [Hro.out]
    exact ⟨none,0,rfl,Sl.nil_⟩
   ·exact (((hb0.setCell (Nat.le_refl _) _).setCell (Nat.le_refl _) _).setCell (Nat.le_refl _) _)
theorem num_cases (P:Int→Prop) (h1:P 1) (h2:P 2) (h3:P 3) (h4:P 4) (h5:P 5) (h6:P 6) (h7:P 7) (h20:P 20) (h21:P 21) (h30:P 30) (h31:P 31) (h32:P 32) (h33:P 33) (h34:P 34) (h50:P 50) (h51:P 51) (h52:P 52) (h53:P 53) (h60:P 60) (ho:∀n,n≠1→n≠2→n≠3→n≠4→n≠5→n≠6→n≠7→n≠20→n≠21→n≠30→n≠31→n≠32→n≠33→n≠34→n≠50→n≠51→n≠52→n≠53→n≠60→P n) (n:Int):P n:=by
 by_cases c1:n=1
 ·subst c1;exact h1
 by_cases c2:n=2
 ·subst c2;exact h2
 by_cases c3:n=3
 ·subst c3;exact h3
 by_cases c4:n=4
 ·subst c4;exact h4
 by_cases c5:n=5
 ·subst c5;exact h5
 by_cases c6:n=6
 ·subst c6;exact h6
 by_cases c7:n=7
 ·subst c7;exact h7
 by_cases c20:n=20
 ·subst c20;exact h20
 by_cases c21:n=21
 ·subst c21;exact h21
 by_cases c30:n=30
 ·subst c30;exact h30
 by_cases c31:n=31
 ·subst c31;exact h31
 by_cases c32:n=32
 ·subst c32;exact h32
 by_cases c33:n=33
 ·subst c33;exact h33
 by_cases c34:n=34
 ·subst c34;exact h34
 by_cases c50:n=50
 ·subst c50;exact h50
 by_cases c51:n=51
 ·subst c51;exact h51
 by_cases c52:n=52
 ·subst c52;exact h52
 by_cases c53:n=53
 ·subst c53;exact h53
 by_cases c60:n=60
 ·subst c60;exact h60
 exact ho n c1 c2 c3 c4 c5 c6 c7 c20 c21 c30 c31 c32 c33 c34 c50 c51 c52 c53 c60
theorem rowOf_forms:∀n,(rowOf n).2.2=forms n:=by
 refine num_cases _ (by decide +kernel) (by decide +kernel) (by decide +kernel) (by decide +kernel) (by decide +kernel) (by decide +kernel) (by decide +kernel) (by decide +kernel) (by decide +kernel) (by decide +kernel) (by decide +kernel) (by decide +kernel) (by decide +kernel) (by decide +kernel) (by decide +kernel) (by decide +kernel) (by decide +kernel) (by decide +kernel) (by decide +kernel) ?_
 intro n h1 h2 h3 h4 h5 h6 h7 h20 h21 h30 h31 h32 h33 h34 h50 h51 h52 h53 h60
 have h:table.find? (fun r=>r.1 == n)=none:=by
  simp [table]
  omega
 unfold rowOf
 rw [h]
 simp [forms, *]
theorem rowOf_word:∀n,(rowOf n).2.1=word n:=by
 refine num_cases _ (by decide +kernel) (by decide +kernel) (by decide +kernel) (by decide +kernel) (by decide +kernel) (by decide +kernel) (by decide +kernel) (by decide +kernel) (by decide +kernel) (by decide +kernel) (by decide +kernel) (by decide +kernel) (by decide +kernel) (by decide +kernel) (by decide +kernel) (by decide +kernel) (by decide +kernel) (by decide +kernel) (by decide +kernel) ?_
 intro n h1 h2 h3 h4 h5 h6 h7 h20 h21 h30 h31 h32 h33 h34 h50 h51 h52 h53 h60
 have h:table.find? (fun r=>r.1 == n)=none:=by
  simp [table]
  omega
 unfold rowOf
 rw [h]
 simp [word,letw, *]
@[go_sem] theorem row_field1 (a b c:Value) (w:World):(Instr.field 129 (.agg #[a,b,c]) 1).run Tryz.prog w=.ok b w:=by kernel_rfl
@[go_sem] theorem row_field2 (a b c:Value) (w:World):(Instr.field 129 (.agg #[a,b,c]) 2).run Tryz.prog w=.ok c w:=by kernel_rfl
theorem rfit_any (n m:Int) (w:World) :
  Calls Tryz.prog 58 #[.int .i64 n,.int .i64 m] w fun e w'=>e=.returned (.tuple #[.string (fit n m).1,.bool (fit n m).2])∧Below w.heap.size w w':=by
 have hl:=forms_len n
 have Hr:=hide (rowOf_forms n)
 go_enter Tryz.func58,Tryz.ntmps58
 go_wp2_with fail
 refine (of_any _ _).mono ?_
 rw [Hr.out]
 rintro e w1 ⟨v,rfl,⟨A,c,rfl,hr⟩,hb⟩
 go_wp2
 go_loop [7] (fun i=>∃k:Nat,k≤(forms n).length∧i=.int .i64 k∧∀j s,j<k→(forms n)[j]?=some s→(s.size:Int)≠m) (fun i=>(forms n).length - (intOf i).toNat)
 case atStart=>exact ⟨0,Nat.zero_le _,rfl,by simp⟩
 case round =>
  obtain ⟨k,hk,rfl,hno⟩:=hrel
  by_cases hlt:k<(forms n).length
  ·obtain ⟨ad,rfl,_,hc⟩:=hr.str hlt
   generalize hs:(forms n)[k]=s at hc
   have hs':(forms n)[k]?=some s:=by rw [List.getElem?_eq_getElem hlt,hs]
   by_cases hm:(s.size:Int)=m
   ·have hf:fit n m=(s,true):=by
     have:(forms n).find? (fun s=>(s.size:Int) == m)=some s:=by
      rw [List.find?_eq_some_iff_getElem]
      exact ⟨by simpa using hm,k,hlt,hs,fun j hj=>by simpa using hno j _ hj (List.getElem?_eq_getElem (by omega))⟩
     simp [fit,this]
    have Hf:=hide hf
    clear hf hs hs' hno
    go_wp2
    go_ret2
    exact ⟨by rw [Hf.out];rfl,hb⟩
   ·have hno':∀j s,j<k+1→(forms n)[j]?=some s→(s.size:Int)≠m:=by
     intro j s' hj hs2
     by_cases hjk:j=k
     ·subst hjk
      rw [hs'] at hs2
      cases hs2
      exact hm
     ·exact hno j s' (by omega) hs2
    have Hno:=hide hno'
    clear hs hs' hno hno'
    go_wp2
    go_round
    case rel=>exact ⟨k+1,hlt,by go_num,Hno.out⟩
    case measure=>simp [intOf];omega
  ·have hf:fit n m=(⟨#[]⟩,false):=by
    have:(forms n).find? (fun s=>(s.size:Int) == m)=none:=by
     rw [List.find?_eq_none]
     intro s hs
     obtain ⟨j,hj,rfl⟩:=List.getElem_of_mem hs
     simpa using hno j _ (by omega) (List.getElem?_eq_getElem hj)
    simp [fit,this]
   have Hf:=hide hf
   clear hf hno
   go_wp2
   go_ret2
   exact ⟨by rw [Hf.out];rfl,hb⟩
end Go.Proofs.YtihfpbaaiedfbaaGreatDoor

namespace Go.Proofs.YtihfpbaaiedfbaaGreatDoor
open Go.RowKit Go.ChangeShapes Go.WideShapes Go.Sort
theorem word_len (n:Int):(word n).size≤60:=by
 unfold word letw
 repeat' refine ite_ok (P:=fun b:ByteArray=>b.size≤60) ?_ ?_
 all_goals decide
theorem atL_msg:atL [msgB]=[109,101,115,115,97,103,101,32]:=by decide
structure TwoB (w:World) (h:Nat) (a b c d:Value):Prop where
 m:Blk w h 69 #[a,b]
 e:Blk w (h+1) 44 #[c,d]
theorem TwoB.below {w w':World} {h:Nat} {a b c d:Value} (t:TwoB w h a b c d) (hb:Below w.heap.size w w'):TwoB w' h a b c d:=⟨t.m.below hb t.m.lt,t.e.below hb t.e.lt⟩
theorem TwoB.set {w:World} {h:Nat} {a b c d:Value} (t:TwoB w h a b c d) (v0 v1 u0 u1:Value):TwoB ((((w.setCell ⟨h,0,none⟩ v0).setCell ⟨h,1,none⟩ v1).setCell ⟨h+1,0,none⟩ u0).setCell ⟨h+1,1,none⟩ u1) h v0 v1 u0 u1:=by
 have h1:=two_fin t.m v0 v1
 have h2:=(t.e.far (p:=⟨h,0,none⟩) (by simp) v0).far (p:=⟨h,1,none⟩) (by simp) v1
 exact ⟨(h1.far (p:=⟨h+1,0,none⟩) (by simp) u0).far (p:=⟨h+1,1,none⟩) (by simp) u1,two_fin h2 u0 u1⟩
theorem TwoB.bel {B:Nat} {w0 w:World} {h:Nat} (hb:Below B w0 w) (hh:B≤h) (v0 v1 u0 u1:Value):Below B w0 ((((w.setCell ⟨h,0,none⟩ v0).setCell ⟨h,1,none⟩ v1).setCell ⟨h+1,0,none⟩ u0).setCell ⟨h+1,1,none⟩ u1) :=
 (((hb.setCell (p:=⟨h,0,none⟩) hh v0).setCell (p:=⟨h,1,none⟩) hh v1).setCell (p:=⟨h+1,0,none⟩) (Nat.le_succ_of_le hh) u0).setCell (p:=⟨h+1,1,none⟩) (Nat.le_succ_of_le hh) u1
theorem TwoB.flds {lo:Nat} {w:World} {A:Option Addr} {l:List Fld} {h:Nat} (hf:FldsN lo w A l) (hh:h+1<lo) (v0 v1 u0 u1:Value):FldsN lo ((((w.setCell ⟨h,0,none⟩ v0).setCell ⟨h,1,none⟩ v1).setCell ⟨h+1,0,none⟩ u0).setCell ⟨h+1,1,none⟩ u1) A l :=
 (((hf.setCell (p:=⟨h,0,none⟩) (by show h<lo;omega) v0).setCell (p:=⟨h,1,none⟩) (by show h<lo;omega) v1).setCell (p:=⟨h+1,0,none⟩) hh u0).setCell (p:=⟨h+1,1,none⟩) hh u1
structure RDecI (w:World) (p:List UInt8) (fs:List ByteArray) (num:Nat) (fv:Value) (b4 j:Nat) (wr:World):Prop where
 bel:Below w.heap.size w wr
 two:TwoB wr w.heap.size (.int .i64 0) (.slice none 0 0) (.int .i64 0) (.string ⟨#[]⟩)
 row:Blk wr b4 129 #[.int .i64 num,.string (word (num:Nat)),fv]
 rest:firstF fs (p.drop 1)=firstF (fs.drop j) (p.drop 1)
theorem encGo_rstep {f:List UInt8} {l:List Fld} {i:Nat} (out:List UInt8) (hf:i<f.length) (hl:i<l.length) :
  encGo (f.drop i) (l.drop i) i out=if l[i].k=f[i].toNat then (if (rputF l[i]).1=0 then (if 32768<(out++(rputF l[i]).2).length then .long else encGo (f.drop (i+1)) (l.drop (i+1)) (i+1) (out++(rputF l[i]).2)) else .bad (rputF l[i]).1 i) else .bad 3 i:=by
 rw [encGo_step out hf hl]
 unfold rputF
 cases hp:plainF l[i] with
 | true=>simp
 | false=>simp
theorem rputF_len {x:Fld} (hx:SzF x):(rputF x).2.length≤200000000:=by
 unfold rputF
 split
 ·exact putF_len hx
 ·simp
theorem rputF_err (x:Fld):(rputF x).1≤5:=by
 unfold rputF
 split
 ·exact putF_err_lt x
 ·simp
def REncP (num:Int) (l:List Fld) (w:World) (e:Ending) (w':World):Prop :=
 Below w.heap.size w w'∧((∃s,encS num l=.ok s∧e=.returned (.tuple #[.string (bs s),.agg #[.int .i64 0,.string ⟨#[]⟩]])) ∨
  (∃ps,∃k:Nat,encErr num (encS num l)=some (ps,k)∧k≠0∧e=.returned (.tuple #[.string ⟨#[]⟩,.agg #[.int .i64 k,.string (bs (atL ps))]])))
structure REncI (w:World) (num:Int) (l:List Fld) (A:Option Addr) (c:Nat) (f:ByteArray) (i:Nat) (out:List UInt8) (wr:World):Prop where
 bel:Below w.heap.size w wr
 box:Blk wr w.heap.size 69 #[.int .i64 num,.slice A l.length c]
 eb:Blk wr (w.heap.size+1) 44 #[.int .i64 0,.string ⟨#[]⟩]
 go:encGo (f.data.toList.drop i) (l.drop i) i out=encS num l
 len:out.length≤32768
theorem one_bel {B:Nat} {w0 w:World} {g:Nat} (hb:Below B w0 w) (hg:B≤g) (v0 v1:Value):Below B w0 ((w.setCell ⟨g,0,none⟩ v0).setCell ⟨g,1,none⟩ v1):=(hb.setCell (p:=⟨g,0,none⟩) hg v0).setCell (p:=⟨g,1,none⟩) hg v1
section
variable {w : World}
theorem rencode_anyM (num:Int) {l:List Fld} {A:Option Addr} {c:Nat} (hl:Flds w A l) (hs:∀x∈l,SzF x) (hll:l.length≤1000) :
  Calls Tryz.prog 23 #[.agg #[.int .i64 num,.slice A l.length c]] w (REncP num l w):=by
 have HF:=hide (fun W=>rfit_any num (l.length:Int) W)
 obtain ⟨W0,hW0⟩:∃W0,W0=(w.alloc (.cells #[.int .i64 num,.slice A l.length c] 69)).alloc (.cells #[.int .i64 0,.string ⟨#[]⟩] 44):=⟨_,rfl⟩
 have hb0:Below w.heap.size w W0:=by rw [hW0];exact bel_by
 have hM0:Blk W0 w.heap.size 69 #[.int .i64 num,.slice A l.length c]:=by rw [hW0];exact (Blk.new w _ _).alloc _
 have hE0:Blk W0 (w.heap.size+1) 44 #[.int .i64 0,.string ⟨#[]⟩]:=by rw [hW0];exact blk_new2 w _ _ _
 have m0:=hM0.cell 0
 have m1:=hM0.cell 1
 simp at m0 m1
 cases hf:(fit num l.length).2 with
 | false =>
  have HE:=hide (show encErr num (encS num l)=some ([msgB],6) from by unfold encS;rw [hf];rfl)
  have HM:=hide (show bs (atL [msgB])=(⟨#[109,101,115,115,97,103,101,32]⟩:ByteArray) from by rw [atL_msg];rfl)
  rw [hf] at HF
  generalize (fit num l.length).1=f at HF
  have HX:=hide (And.intro hE0 hb0)
  clear hl hs hM0 hE0 hb0 hf
  go_enter Tryz.func23,Tryz.ntmps23
  go_upto_region 1 with fail
  rw [←hW0]
  clear hW0
  go_wp2_with (first
   | (go_at_call 58;refine (HF.out _).mono ?_;rintro e w1 ⟨rfl,hb1⟩;have hE:=HX.out.1.below hb1 HX.out.1.lt;have y0:=hE.cell 0;have y1:=hE.cell 1;have s0:=hE.frozen 0;have s1:=hE.frozen 1;simp at y0 y1)
   | fail)
  have hF:=two_fin hE (.int .i64 6) (.string ⟨#[109,101,115,115,97,103,101,32]⟩)
  have q2:=hF.cell 0
  have q3:=hF.cell 1
  simp at q2 q3
  exact bodyPost_ret (v:=.tuple #[.string ⟨#[]⟩,.agg #[.int .i64 6,.string ⟨#[109,101,115,115,97,103,101,32]⟩]]) (by simp [results,Tryz.results23,go_sem,q2,q3]) rfl ⟨one_bel (HX.out.2.trans (hb1.mono HX.out.2.size)) (Nat.le_succ _) _ _,.inr ⟨[msgB],6,HE.out,by decide,by rw [HM.out];rfl⟩⟩
 | true =>
  obtain ⟨hmem,hsz⟩:=fit_get hf
  obtain ⟨hf13,hasc⟩:=form_ascii hmem
  have hn:=forms_num (n:=num) (fun e=>by rw [e] at hmem;simp at hmem)
  have hE00:encGo ((fit num l.length).1.data.toList.drop 0) (l.drop 0) 0 [UInt8.ofNat num.toNat]=encS num l:=by
   unfold encS
   rw [if_pos hf]
   rfl
  rw [hf] at HF
  generalize (fit num l.length).1=f at HF hsz hf13 hasc hE00
  obtain ⟨m,rfl⟩:∃m:Nat,num=m:=⟨num.toNat,by omega⟩
  have hmm:(m:Int).toNat=m:=by simp
  rw [hmm] at hE00
  have HB:=hide (fun W=>rByte_any m W (by omega))
  have hwm:IntKind.u8.wrap (m:Int)=m:=by
   simp only [IntKind.wrap,IntKind.bits,IntKind.signed]
   simp
   omega
  have HOf:=hide (fun W=>of_any (m:Int) W)
  rw [rowOf_word] at HOf
  have hwl:=word_len (m:Int)
  obtain ⟨wd,hwd⟩:∃wd,wd=word (m:Int):=⟨_,rfl⟩
  rw [←hwd] at HOf hwl
  have Hwd:=hide hwd
  have HL:=hide hl
  have HS:=hide hs
  have hfl:f.data.toList.length=l.length:=hsz
  have hsz13:l.length≤13:=by omega
  have hszI:(f.size:Int)=l.length:=by omega
  have HX:=hide (And.intro hM0 (And.intro hE0 hb0))
  have HE0:=hide hE00
  clear hl hs hM0 hE0 hb0 hE00 hmem hf hn hmm hwd hasc
  go_enter Tryz.func23,Tryz.ntmps23
  go_upto_region 1 with fail
  rw [←hW0]
  clear hW0
  go_upto_region 6 with (first
   | (go_at_call 58;refine (HF.out _).mono ?_;rintro e w1 ⟨rfl,hb1⟩;have hM1:=HX.out.1.below hb1 HX.out.1.lt;have x0:=hM1.cell 0;simp at x0)
   | (go_at_call 59;refine (HOf.out _).mono ?_;rintro e w2 ⟨fv,rfl,hS2,hb2⟩;have hM2:=hM1.below hb2 hM1.lt;have x2:=hM2.cell 0;simp at x2)
   | (go_at_call 60;refine (HB.out _).mono ?_;rintro e w3 ⟨rfl,hb3⟩)
   | fail)
  have hb03:Below W0.heap.size W0 w3:=hb1.trans ((hb2.mono hb1.size).trans (hb3.mono (Nat.le_trans hb1.size hb2.size)))
  have HI0:=hide (show REncI w m l A c f 0 [UInt8.ofNat m] w3 from ⟨HX.out.2.2.trans (hb03.mono HX.out.2.2.size),HX.out.1.below hb03 HX.out.1.lt,HX.out.2.1.below hb03 HX.out.2.1.lt,HE0.out,by simp⟩)
  have HPl:=hide (fun (i:Nat) (h:i<100) W=>rplace_any i h W)
  clear hb1 hb2 hb3 hM1 hM2 x0 x2 m0 m1 HF HOf HB HX HE0 hb03 hS2
  go_wp2_with fail
  go_loopw [7,8] (fun vo vi wr=>∃(i:Nat) (out:List UInt8),vo=.string (bs out)∧vi=.int .i64 i∧i≤l.length∧Hid (REncI w m l A c f i out wr)) (fun _ vi _=>l.length - (intOf vi).toNat)
  case atStart=>exact ⟨0,_,rfl,rfl,Nat.zero_le _,HI0⟩
  case round =>
   obtain ⟨i,out,rfl,rfl,hi,HI⟩:=hrel
   have hbr:=HI.out.bel
   have hM:=HI.out.box
   have hE:=HI.out.eb
   have hol:=HI.out.len
   have x0:=hM.cell 0
   have x1:=hM.cell 1
   have y0:=hE.cell 0
   have y1:=hE.cell 1
   have s0:=hE.frozen 0
   have s1:=hE.frozen 1
   simp at x0 x1 y0 y1
   by_cases hlt:i<l.length
   ·have hif:i<f.size:=by omega
    have hiI:(i:Int)<l.length:=by omega
    have hiF:(i:Int)<f.size:=by omega
    have hgo:=hide (encGo_rstep (i:=i) (f:=f.data.toList) (l:=l) out (by omega) hlt)
    have hgo2:=hide HI.out.go
    have hfc:f.data.toList[i]'(by omega)=f[i]:=rfl
    rw [hfc] at hgo
    obtain ⟨ad,A2,c2,rfl,q0,q1,q2,q3,hTx,hc2,hk⟩:=flds_at (HL.out.below hbr) hlt
    have hSx:=HS.out _ (List.getElem_mem hlt)
    have hpl:=rputF_len hSx
    have hpe:=rputF_err l[i]
    generalize hx:l[i]=x at q0 q1 q2 q3 hTx hc2 hk hSx hgo hpl hpe
    have HXr:=hide (And.intro hM (And.intro hE hbr))
    have hi100:i<100:=by omega
    have HPi:=hide (fun W=>HPl.out i hi100 W)
    have hdl:(bs (atL [Lib.decDigits i])).size≤10:=place_len i hi100
    have hW2:=hide (show wd++(⟨#[32]⟩:ByteArray)++bs (atL [Lib.decDigits i])=bs (atL [wd.data.toList,Lib.decDigits i]) from bs_eq (by rw [data_append,data_append,bs_data];simp [atL]))
    have hE7:=hide (fun (W:World) (hb:Below wr.heap.size wr W)=>hE.below hb hE.lt)
    have hPu:=hide (fun (W:World) (hb:∃n,W=wr.drewN n)=>rput_any (w:=W) x hSx (A:=A2) (c:=c2) (by obtain ⟨n,rfl⟩:=hb;exact hTx.below (below_drewN (Below.refl _ _) n)))
    unfold Says at HPi
    generalize bs (atL [Lib.decDigits i])=pl at HPi hW2 hdl
    clear hM hE HI hx hfc hSx hTx HS
    by_cases hch:x.k=f[i].toNat
    ·have ek:((x.k:Int) == (f[i].toNat:Int))=true:=i_eq hch
     have ek2:((x.k:Int) != (f[i].toNat:Int))=false:=by simp [bne,ek]
     have hgo1:=hide (hgo.out.trans (if_pos hch))
     clear hgo hch
     unfold fldV at hPu
     by_cases he:(rputF x).1=0
     ·have hgo3:=hide (hgo1.out.trans (if_pos he))
      unfold RPutP at hPu
      rw [he] at hPu
      clear hgo1 he
      generalize (rputF x).2=bb at hPu hgo3 hpl
      have hL1:(bs (out++bb)).size=out.length+bb.length:=by rw [bs_size,List.length_append]
      by_cases hL:32768<(out++bb).length
      ·have HE:=hide (show encErr m (encS m l)=some ([wd.data.toList],2) from by
        rw [←hgo2.out,hgo3.out,if_pos hL,Hwd.out]
        rfl)
       have hW1:=hide (show wd++(⟨#[32]⟩:ByteArray)=bs (atL [wd.data.toList]) from bs_eq (by rw [data_append];simp [atL]))
       have hL2:(32768:Int)<(out.length:Int)+(bb.length:Int):=by rw [List.length_append] at hL;omega
       have hL3:(32768:Int)<((out.length+bb.length:Nat):Int):=by omega
       have hL4:(32768:Int)<((bs (out++bb)).size:Int):=by rw [hL1];omega
       clear hgo3 hL hgo2
       go_upto_region 9 with fail
       go_quiet (fail)
       go_wp2_with (first
        | (go_at_call 62;refine (hPu.out _ ⟨_,rfl⟩).mono ?_;rintro e w4 ⟨rfl,hb4⟩;have hbX:=(below_drewN (Below.refl _ _) _).trans hb4;have hE4:=hE7.out _ hbX;have y0:=hE4.cell 0;have y1:=hE4.cell 1;have s0:=hE4.frozen 0;have s1:=hE4.frozen 1;simp at y0 y1)
        | fail)
       have hF:=two_fin hE4 (.int .i64 2) (.string (wd++(⟨#[32]⟩:ByteArray)))
       have q2:=hF.cell 0
       have q3:=hF.cell 1
       simp at q2 q3
       exact bodyPost_ret (v:=.tuple #[.string ⟨#[]⟩,.agg #[.int .i64 2,.string (wd++(⟨#[32]⟩:ByteArray))]]) (by simp [results,Tryz.results23,go_sem,q2,q3]) rfl ⟨one_bel (HXr.out.2.2.trans (hbX.mono HXr.out.2.2.size)) (Nat.le_succ _) _ _,.inr ⟨_,2,HE.out,by decide,by rw [hW1.out];rfl⟩⟩
      ·have HN:=hide (show encGo (f.data.toList.drop (i+1)) (l.drop (i+1)) (i+1) (out++bb)=encS m l from by rw [←hgo2.out,hgo3.out,if_neg hL])
       have hL2:¬ (32768:Int)<(out.length:Int)+(bb.length:Int):=by rw [List.length_append] at hL;omega
       have hL3:¬ (32768:Int)<((out.length+bb.length:Nat):Int):=by omega
       have hL4:¬ (32768:Int)<((bs (out++bb)).size:Int):=by rw [hL1];omega
       have HL9:=hide (Nat.le_of_not_lt hL)
       clear hgo3 hL hgo2
       go_upto_region 9 with fail
       go_quiet (fail)
       go_wp2_with (first
        | (go_at_call 62;refine (hPu.out _ ⟨_,rfl⟩).mono ?_;rintro e w4 ⟨rfl,hb4⟩;have hbX:=(below_drewN (Below.refl _ _) _).trans hb4;have hE4:=hE7.out _ hbX;have y0:=hE4.cell 0;have y1:=hE4.cell 1;have s0:=hE4.frozen 0;have s1:=hE4.frozen 1;simp at y0 y1)
        | fail)
       exact ⟨⟨i+1,out++bb,rfl,by go_num,by omega,hide ⟨HXr.out.2.2.trans (hbX.mono HXr.out.2.2.size),HXr.out.1.below hbX HXr.out.1.lt,hE4,HN.out,HL9.out⟩⟩,by simp [intOf];omega⟩
     ·have HE:=hide (show encErr m (encS m l)=some ([wd.data.toList,Lib.decDigits i],(rputF x).1) from by
       rw [←hgo2.out,hgo1.out,if_neg he,Hwd.out]
       rfl)
      have e1:(((rputF x).1:Int) == 0)=false:=by rw [beq_eq_false_iff_ne];omega
      have e2:(((rputF x).1:Int) != 0)=true:=by simp [bne,e1]
      have He:=hide he
      unfold RPutP at hPu
      clear hgo1 hgo2 he
      generalize (rputF x).2=bb at hPu hpl
      generalize (rputF x).1=ke at hPu hpe HE e1 e2 He
      go_upto_region 9 with fail
      go_quiet (fail)
      go_wp2_with (first
       | (go_at_call 62;refine (hPu.out _ ⟨_,rfl⟩).mono ?_;rintro e w4 ⟨rfl,hb4⟩;have hbX:=(below_drewN (Below.refl _ _) _).trans hb4;have hE4:=hE7.out _ hbX;have y0:=hE4.cell 0;have y1:=hE4.cell 1;have s0:=hE4.frozen 0;have s1:=hE4.frozen 1;simp at y0 y1)
       | (go_at_call 61;refine (HPi.out _).mono ?_;rintro e w5 ⟨rfl,hb5⟩;have hE4:=hE4.below hb5 hE4.lt;have y0:=hE4.cell 0;have y1:=hE4.cell 1;have s0:=hE4.frozen 0;have s1:=hE4.frozen 1;simp at y0 y1)
       | fail)
      have hF:=two_fin hE4 (.int .i64 (ke:Nat)) (.string (wd++(⟨#[32]⟩:ByteArray)++pl))
      have q2:=hF.cell 0
      have q3:=hF.cell 1
      simp at q2 q3
      exact bodyPost_ret (v:=.tuple #[.string ⟨#[]⟩,.agg #[.int .i64 (ke:Nat),.string (wd++(⟨#[32]⟩:ByteArray)++pl)]]) (by simp [results,Tryz.results23,go_sem,q2,q3]) rfl ⟨one_bel (HXr.out.2.2.trans ((hbX.trans (hb5.mono hbX.size)).mono HXr.out.2.2.size)) (Nat.le_succ _) _ _,.inr ⟨_,ke,HE.out,He.out,by rw [hW2.out]⟩⟩
    ·have ek:((x.k:Int) == (f[i].toNat:Int))=false:=i_ne hch
     have ek2:((x.k:Int) != (f[i].toNat:Int))=true:=by simp [bne,ek]
     have HE:=hide (show encErr m (encS m l)=some ([wd.data.toList,Lib.decDigits i],3) from by
      rw [←hgo2.out,hgo.out,if_neg hch,Hwd.out]
      rfl)
     clear hgo hgo2 hch hPu
     go_upto_region 9 with fail
     go_quiet (fail)
     have hE4:=HXr.out.2.1
     go_wp2_with (first
      | (go_at_call 61;refine (HPi.out _).mono ?_;rintro e w5 ⟨rfl,hb5⟩;have hbX:=(below_drewN (Below.refl _ _) _).trans hb5;have hE4:=hE7.out _ hbX;have y0:=hE4.cell 0;have y1:=hE4.cell 1;have s0:=hE4.frozen 0;have s1:=hE4.frozen 1;simp at y0 y1)
      | fail)
     have hF:=two_fin hE4 (.int .i64 3) (.string (wd++(⟨#[32]⟩:ByteArray)++pl))
     have q2:=hF.cell 0
     have q3:=hF.cell 1
     simp at q2 q3
     exact bodyPost_ret (v:=.tuple #[.string ⟨#[]⟩,.agg #[.int .i64 3,.string (wd++(⟨#[32]⟩:ByteArray)++pl)]]) (by simp [results,Tryz.results23,go_sem,q2,q3]) rfl ⟨one_bel (HXr.out.2.2.trans (hbX.mono HXr.out.2.2.size)) (Nat.le_succ _) _ _,.inr ⟨_,3,HE.out,by decide,by rw [hW2.out];rfl⟩⟩
   ·have hil:i=l.length:=by omega
    subst hil
    have hiF:¬ (l.length:Int)<f.size:=by omega
    have HE:=hide (show encS m l=.ok out from by
     rw [←HI.out.go,List.drop_of_length_le (by omega)]
     rfl)
    have hE4:=hE
    have Hbr:=hide hbr
    clear HI hM hE hbr
    go_wp2_with fail
    have hF:=two_fin hE4 (.int .i64 0) (.string ⟨#[]⟩)
    have q2:=hF.cell 0
    have q3:=hF.cell 1
    simp at q2 q3
    exact bodyPost_ret (v:=.tuple #[.string (bs out),.agg #[.int .i64 0,.string ⟨#[]⟩]]) (by simp [results,Tryz.results23,go_sem,q2,q3]) rfl ⟨one_bel Hbr.out (Nat.le_succ _) _ _,.inl ⟨out,HE.out,rfl⟩⟩
end
end Go.Proofs.YtihfpbaaiedfbaaGreatDoor

namespace Go.Proofs.YtihfpbaaiedfbaaGreatDoor
end Go.Proofs.YtihfpbaaiedfbaaGreatDoor

namespace Go.Proofs.YtihfpbaaiedfbaaGreatDoor
open Go.RowKit Go.ChangeShapes Go.WideShapes Go.Sort
theorem own_setK {W:World} {B g size n:Nat} {e t:TypeId} {v:Value} {xs:List Value} {cs:Array Value} (h:W.ownsRow B e size v n xs) (hb:Blk W g t cs) (hne:e≠t) (c:Nat) (u:Value):(W.setCell ⟨g,c,none⟩ u).ownsRow B e size v n xs :=
 h.kept (only_setCell (only_refl W (some g)) (.inl rfl) u) (.inr (own_blk_ne h hb hne))
structure MkMsg (lo:Nat) (mb:Nat) (num:Int) (A:Option Addr) (n c:Nat) (zs:List (Fld × Value)) (w:World):Prop where
 len:zs.length=n
 m:Blk w mb 69 #[.int .i64 num,.slice A n c]
 own:w.ownsRow lo 75 4 (.slice A n c) n (fcs zs)
end Go.Proofs.YtihfpbaaiedfbaaGreatDoor

namespace Go.Proofs.YtihfpbaaiedfbaaGreatDoor
open Go.RowKit
theorem infoStrX:(Tryz.prog.info? 9).map (fun i=>(i.zero,i.size,i.bytes))=some (some (.string ByteArray.empty),1,16):=by kernel_rfl
def AllS (lo:Nat) (w:World) (vs:List Value) (ss:List (List ByteArray)):Prop :=
 vs.length=ss.length∧∀(i:Nat) (v:Value) (s:List ByteArray),vs[i]?=some v→ss[i]?=some s→Strs lo w v s∧s.length≤9223372036854775807
theorem AllS.below {lo:Nat} {w w':World} {vs:List Value} {ss:List (List ByteArray)} (h:AllS lo w vs ss) (hb:Below w.heap.size w w'):AllS lo w' vs ss :=
 ⟨h.1,fun i v s h1 h2=>⟨(h.2 i v s h1 h2).1.below hb,(h.2 i v s h1 h2).2⟩⟩
theorem AllS.alloc {lo:Nat} {w:World} {vs:List Value} {ss:List (List ByteArray)} (h:AllS lo w vs ss) (o:Obj):AllS lo (w.alloc o) vs ss:=h.below ((Below.refl _ _).alloc (Nat.le_refl _) o)
theorem AllS.at_ {lo:Nat} {w:World} {vs:List Value} {ss:List (List ByteArray)} (h:AllS lo w vs ss) {i:Nat} (hi:i<ss.length):∃v,vs[i]?=some v∧Strs lo w v ss[i]∧ss[i].length≤9223372036854775807:=by
 have hl:i<vs.length:=by rw [h.1];exact hi
 exact ⟨vs[i],List.getElem?_eq_getElem hl,h.2 i _ _ (List.getElem?_eq_getElem hl) (List.getElem?_eq_getElem hi)⟩
def fewL (s:List ByteArray):Bool:=decide (s.length≤20) && s.all fun x=>decide (x.size≤100)
def fewLs (ss:List (List ByteArray)):Bool:=ss.all fewL

def IsSl (v:Value):Prop:=∃A n c,v=.slice A n c
theorem Strs.isSl {lo:Nat} {w:World} {v:Value} {s:List ByteArray} (h:Strs lo w v s):IsSl v:=let ⟨A,c,e,_⟩:=h;⟨A,_,c,e⟩
theorem AllS.isSl {lo:Nat} {w:World} {vs:List Value} {ss:List (List ByteArray)} (h:AllS lo w vs ss) {i:Nat} {v:Value} (hv:vs[i]?=some v):IsSl v:=by
 have hl:i<ss.length:=by rw [←h.1];exact (List.getElem?_eq_some_iff.1 hv).1
 exact (h.2 i v _ hv (List.getElem?_eq_getElem hl)).1.isSl
theorem AllS.sl8 {lo:Nat} {w:World} {v0 v1 v2 v3 v4 v5 v6 v7:Value} {ss:List (List ByteArray)} (h:AllS lo w [v0,v1,v2,v3,v4,v5,v6,v7] ss):IsSl v0∧IsSl v1∧IsSl v2∧IsSl v3∧IsSl v4∧IsSl v5∧IsSl v6∧IsSl v7 :=
 ⟨h.isSl (i:=0) rfl,h.isSl (i:=1) rfl,h.isSl (i:=2) rfl,h.isSl (i:=3) rfl,h.isSl (i:=4) rfl,h.isSl (i:=5) rfl,h.isSl (i:=6) rfl,h.isSl (i:=7) rfl⟩
theorem rlists_any {v0 v1 v2 v3 v4 v5 v6 v7:Value} (w:World) (hs:IsSl v0∧IsSl v1∧IsSl v2∧IsSl v3∧IsSl v4∧IsSl v5∧IsSl v6∧IsSl v7) :
  Calls Tryz.prog 108 #[.agg #[v0,v1,v2,v3,v4,v5,v6,v7]] w fun e w'=>e=.returned (.slice (some ⟨w.heap.size+1,0,none⟩) 8 8)∧Blk w' (w.heap.size+1) 22 #[v0,v1,v2,v3,v4,v5,v6,v7]∧Below w.heap.size w w':=by
 obtain ⟨⟨A0,n0,c0,rfl⟩,⟨A1,n1,c1,rfl⟩,⟨A2,n2,c2,rfl⟩,⟨A3,n3,c3,rfl⟩,⟨A4,n4,c4,rfl⟩,⟨A5,n5,c5,rfl⟩,⟨A6,n6,c6,rfl⟩,⟨A7,n7,c7,rfl⟩⟩:=hs
 go_enter Tryz.func108,Tryz.ntmps108
 go_wp2
 go_ret
 refine ⟨rfl,?_,by exact bel_by⟩
 have:=Blk.new (w.alloc (.cells #[.slice A0 n0 c0,.slice A1 n1 c1,.slice A2 n2 c2,.slice A3 n3 c3,.slice A4 n4 c4,.slice A5 n5 c5,.slice A6 n6 c6,.slice A7 n7 c7] 24)) 22 #[.slice A0 n0 c0,.slice A1 n1 c1,.slice A2 n2 c2,.slice A3 n3 c3,.slice A4 n4 c4,.slice A5 n5 c5,.slice A6 n6 c6,.slice A7 n7 c7]
 rwa [World.size_alloc] at this
theorem fewL_of {s:List ByteArray} (h1:s.length≤20) (h2:∀(j:Nat) (x:ByteArray),s[j]?=some x→x.size≤100):fewL s=true:=by
 unfold fewL
 simp only [Bool.and_eq_true,decide_eq_true_eq,List.all_eq_true]
 refine ⟨h1,fun x hx=>?_⟩
 obtain ⟨j,hj,rfl⟩:=List.getElem_of_mem hx
 exact h2 j _ (List.getElem?_eq_getElem hj)
theorem fewL_long {s:List ByteArray} (h1:¬ s.length≤20):fewL s=false:=by
 unfold fewL
 simp [h1]
theorem fewL_big {s:List ByteArray} {j:Nat} (hj:j<s.length) (h1:¬ s[j].size≤100):fewL s=false:=by
 unfold fewL
 rw [Bool.and_eq_false_iff]
 right
 rw [List.all_eq_false]
 exact ⟨_,List.getElem_mem hj,by simpa using h1⟩
theorem fewLs_no {ss:List (List ByteArray)} {i:Nat} (hi:i<ss.length) (h:fewL ss[i]=false):fewLs ss=false:=by
 unfold fewLs
 rw [List.all_eq_false]
 exact ⟨_,List.getElem_mem hi,by simp [h]⟩
theorem few15_any {lo:Nat} {v0 v1 v2 v3 v4 v5 v6 v7:Value} {ss:List (List ByteArray)} {w:World} (h:AllS lo w [v0,v1,v2,v3,v4,v5,v6,v7] ss) :
  Calls Tryz.prog 63 #[.agg #[v0,v1,v2,v3,v4,v5,v6,v7]] w fun e w'=>e=.returned (.bool (fewLs ss))∧Below w.heap.size w w':=by
 have hl:ss.length=8:=h.1.symm
 have hsl:=h.sl8
 go_enter Tryz.func63,Tryz.ntmps63
 go_wp2_with (go_at_call 108;refine (rlists_any _ hsl).mono ?_;rintro e w1 ⟨rfl,hk,hb⟩)
 have hb1:Below w.heap.size w w1:=bel_trans ((Below.refl _ _).alloc (Nat.le_refl _) _) hb
 have h1:=h.below hb1
 have hs1:=hk.lt
 have hz:=hb1.size
 clear hb h
 rw [World.size_alloc] at hk hs1
 generalize w.heap.size+1+1=g at hk hs1 ⊢
 go_loop [4] (fun i=>∃k:Nat,k≤8∧i=.int .i64 k∧∀(j:Nat) (s:List ByteArray),j<k→ss[j]?=some s→fewL s=true) (fun i=>8 - (intOf i).toNat)
 case atStart=>exact ⟨0,by omega,rfl,by simp⟩
 case round =>
  obtain ⟨k,hk8,rfl,hall⟩:=hrel
  have Hall:=hide hall
  clear hall
  by_cases hlt:k<8
  ·obtain ⟨v,hv,⟨A,c,rfl,hr⟩,hm⟩:=h1.at_ (i:=k) (by omega)
   have hkc:k<ss.length:=by omega
   have hcell:w1.cell? ⟨g,k,none⟩=some (.slice A (ss[k]'hkc).length c):=by rw [hk.cell k];simpa using hv
   clear hv
   by_cases h20:(ss[k]'hkc).length≤20
   ·have h20':((ss[k]'hkc).length:Int)≤20:=by omega
    have hki:(k:Int)<8:=by omega
    go_wp2
    go_loop [5] (fun i=>∃j:Nat,j≤(ss[k]'hkc).length∧i=.int .i64 j∧∀(p:Nat) (x:ByteArray),p<j→(ss[k]'hkc)[p]?=some x→x.size≤100) (fun i=>(ss[k]'hkc).length - (intOf i).toNat)
    case atStart=>exact ⟨0,by omega,rfl,by simp⟩
    case round =>
     obtain ⟨j,hj,rfl,hin⟩:=hrel
     have Hin:=hide hin
     clear hin
     by_cases hjl:j<(ss[k]'hkc).length
     ·obtain ⟨ad,rfl,_,hc0⟩:=hr.str hjl
      have hji:(j:Int)<(ss[k]'hkc).length:=by omega
      by_cases hx:((ss[k]'hkc)[j]).size≤100
      ·have hx':(((ss[k]'hkc)[j]).size:Int)≤100:=by omega
       have Hx:=hide hx
       clear hx
       go_wp2
       go_round
       case rel =>
        refine ⟨j+1,hjl,by go_num,fun p x hp hpx=>?_⟩
        rcases Nat.lt_or_ge p j with h2 | h2
        ·exact Hin.out p x h2 hpx
        ·obtain rfl:p=j:=by omega
         rw [List.getElem?_eq_getElem hjl] at hpx
         cases hpx
         exact Hx.out
       case measure=>simp [intOf];omega
      ·have Hf:=hide (fewLs_no hkc (fewL_big hjl hx))
       have hx':¬ (((ss[k]'hkc)[j]).size:Int)≤100:=by omega
       clear hx
       go_wp2
       go_ret
       exact ⟨ret_bool Hf.out.symm,hb1⟩
     ·have Hf:=hide (fewL_of h20 fun p x hpx=>Hin.out p x (by have:=(List.getElem?_eq_some_iff.1 hpx).1;omega) hpx)
      have hji:¬ (j:Int)<(ss[k]'hkc).length:=by omega
      go_wp2
      go_round
      case rel =>
       refine ⟨k+1,by omega,by go_num,fun p s hp hps=>?_⟩
       rcases Nat.lt_or_ge p k with h2 | h2
       ·exact Hall.out p s h2 hps
       ·obtain rfl:p=k:=by omega
        rw [List.getElem?_eq_getElem hkc] at hps
        cases hps
        exact Hf.out
      case measure=>simp [intOf];omega
   ·have Hf:=hide (fewLs_no hkc (fewL_long h20))
    have h20':¬ ((ss[k]'hkc).length:Int)≤20:=by omega
    have hki:(k:Int)<8:=by omega
    go_wp2
    go_ret
    exact ⟨ret_bool Hf.out.symm,hb1⟩
  ·have Hf:=hide (show fewLs ss=true from List.all_eq_true.2 fun s hs=>by
    obtain ⟨j,hj,rfl⟩:=List.getElem_of_mem hs
    exact Hall.out j _ (by omega) (List.getElem?_eq_getElem hj))
   have hki:¬ (k:Int)<8:=by omega
   go_wp2
   go_ret
   exact ⟨ret_bool Hf.out.symm,hb1⟩
theorem Strs.set {lo:Nat} {w:World} {v:Value} {s:List ByteArray} (h:Strs lo w v s) {p:Addr} {A:Option Addr} {n c:Nat} (hp:w.cell? p=some (.slice A n c)) (u:Value):Strs lo (w.setCell p u) v s:=by
 obtain ⟨B,d,rfl,hl,hr⟩:=h
 refine ⟨B,d,rfl,hl,fun hn=>?_⟩
 obtain ⟨ad,e,h1,h2,h3⟩:=hr hn
 refine ⟨ad,e,h1,by simpa [World.setCell] using h2,fun j x hx=>?_⟩
 have h4:=h3 j x hx
 rw [World.cell?_setCell_other w p _ u ?_]
 ·exact h4
 ·intro e2
  rw [←e2,hp] at h4
  rw [List.getElem?_map] at hx
  cases hs:s[j]? with
  | none=>rw [hs] at hx;cases hx
  | some y=>rw [hs] at hx;simp at hx;rw [←hx] at h4;cases h4
theorem AllS.set {lo:Nat} {w:World} {vs:List Value} {ss:List (List ByteArray)} (h:AllS lo w vs ss) {p:Addr} {A:Option Addr} {n c:Nat} (hp:w.cell? p=some (.slice A n c)) (u:Value):AllS lo (w.setCell p u) vs ss :=
 ⟨h.1,fun i v s h1 h2=>⟨(h.2 i v s h1 h2).1.set hp u,(h.2 i v s h1 h2).2⟩⟩
theorem AllS.put {lo:Nat} {w:World} {vs:List Value} {ss:List (List ByteArray)} (h:AllS lo w vs ss) {k:Nat} {v:Value} (hk:k<ss.length) (hv:Strs lo w v ss[k]):AllS lo w (vs.set k v) ss:=by
 refine ⟨by rw [List.length_set];exact h.1,fun i u s h1 h2=>?_⟩
 by_cases hi:i=k
 ·subst hi
  rw [List.getElem?_set_self (by rw [h.1];exact hk)] at h1
  rw [List.getElem?_eq_getElem hk] at h2
  cases h1
  cases h2
  exact ⟨hv,((h.at_ hk).choose_spec).2.2⟩
 ·rw [List.getElem?_set_ne (Ne.symm hi)] at h1
  exact h.2 i u s h1 h2
def Row8 (w:World) (g:Nat) (ss:List (List ByteArray)):Prop:=∃vs:List Value,Blk w g 22 vs.toArray∧AllS 0 w vs ss
theorem Row8.below {w w':World} {g:Nat} {ss:List (List ByteArray)} (h:Row8 w g ss) (hb:Below w.heap.size w w'):Row8 w' g ss :=
 let ⟨vs,h1,h2⟩:=h;⟨vs,h1.below hb h1.lt,h2.below hb⟩
theorem Row8.lt {w:World} {g:Nat} {ss:List (List ByteArray)} (h:Row8 w g ss):g<w.heap.size:=let ⟨_,h1,_⟩:=h;h1.lt
theorem Row8.drewN {w:World} {g:Nat} {ss:List (List ByteArray)} (h:Row8 w g ss) (n:Nat):Row8 (w.drewN n) g ss:=h
theorem Row8.at_ {w:World} {g:Nat} {ss:List (List ByteArray)} (h:Row8 w g ss) {k:Nat} (hk:k<ss.length):∃A c,w.cell? ⟨g,k,none⟩=some (.slice A ss[k].length c)∧Strs 0 w (.slice A ss[k].length c) ss[k]∧ss[k].length≤9223372036854775807:=by
 obtain ⟨vs,h1,h2⟩:=h
 obtain ⟨v,hv,⟨A,c,rfl,hr⟩,hm⟩:=h2.at_ hk
 exact ⟨A,c,by rw [h1.cell k];simpa using hv,⟨A,c,rfl,hr⟩,hm⟩
end Go.Proofs.YtihfpbaaiedfbaaGreatDoor

namespace Go.Proofs.YtihfpbaaiedfbaaGreatDoor
open Go.RowKit Go.ChangeShapes Go.WideShapes Go.Sort
theorem clone_own {lo:Nat} {v:Value} {ss:List ByteArray} {w:World} (h:Strs lo w v ss) (hb:ss.length≤8796093022207) :
  Calls Tryz.prog 117 #[v] w fun e w'=>∃v',e=.returned v'∧w'.ownsRow w.heap.size 9 1 v' ss.length (ss.map Value.string)∧Below w.heap.size w w':=by
 obtain ⟨A,c,rfl,hr⟩:=h
 obtain ⟨i0,hi,hz0,hz1,hz2⟩:=info_parts infoStrX
 have q:∀(w:World) (a:Option Addr) (n c n' c':Nat),(binOp .eql 22 (.slice a n c) (.slice none n' c')).run Tryz.prog w=.ok (.bool a.isNone) w:=fun w a n c n' c'=>Lib.run_eql_slice_nil w _ _ a n c n' c' Tryz.underlying22
 cases A with
 | none =>
  have h0:ss=[]:=by
   rcases Nat.eq_zero_or_pos ss.length with h0 | h0
   ·exact List.eq_nil_of_length_eq_zero h0
   ·obtain ⟨ad,h,_⟩:=hr.2 h0
    cases h
  subst h0
  go_enter Tryz.func117,Tryz.ntmps117
  go_wp2
  go_ret
  exact ⟨_,rfl,World.ownsRow_nil _ _ _ _,Below.refl _ _⟩
 | some ad =>
  have hr':=(hr.alloc (.cells #[] 9)).reads
  have hone:∀u∈ss.map Value.string,u.oneCell'=true:=by
   intro u hu
   obtain ⟨s,_,rfl⟩:=List.mem_map.1 hu
   rfl
  have Hone:=hide hone
  have Hr:=hide hr'
  clear hone hr' hr
  go_enter Tryz.func117,Tryz.ntmps117
  go_wp2_with (at_builtin;refine wpList_append_any _ rfl (.tmp 5) (.tmp 6) _ rfl w.heap.size 9 i0 (.string ByteArray.empty) 1 16 Tryz.underlying22 hi hz0 hz1 hz2 rfl (by decide) _ 0 [] rfl (World.ownsRow_made w #[] 0 (Nat.le_refl _) (Nat.zero_le _) (by simp)) (w.heap.size+1) (some ad) ss.length c (ss.map Value.string) rfl (by simpa using Hr.out) Hone.out (by unfold maxLen;omega) (by omega) (by simp) ?_;intro v' w1 hown hgrow _)
  rw [Nat.zero_add,List.nil_append] at hown
  go_wp2
  go_ret
  refine ⟨v',rfl,hown,?_⟩
  exact ((Below.refl _ w).alloc (Nat.le_refl _) _).grown hgrow (by simp) (by rintro k ⟨⟩;exact Nat.le_refl _)
def bss (l:List (List UInt8)):List ByteArray:=l.map bs
theorem NewC.strs {lo:Nat} {w:World} {v:Value} {ls:List (List UInt8)} (h:NewC lo w v ls):Strs lo w v (bss ls):=by
 obtain ⟨A,c,rfl,_,hS⟩:=h
 exact ⟨A,c,by rw [bss,List.length_map],by rw [bss,List.length_map];exact hS⟩
theorem NewC.setSl {lo:Nat} {w:World} {v:Value} {ls:List (List UInt8)} (h:NewC lo w v ls) {p:Addr} {A:Option Addr} {n c:Nat} (hp:w.cell? p=some (.slice A n c)) (u:Value):NewC lo (w.setCell p u) v ls:=by
 have h2:=h.strs.set hp u
 obtain ⟨B,d,rfl,hc,_⟩:=h
 exact newC_of h2 hc
theorem NewC.belowW {lo:Nat} {w w':World} {v:Value} {ls:List (List UInt8)} (h:NewC lo w v ls) (hb:Below w.heap.size w w'):NewC lo w' v ls:=by
 obtain ⟨A,c,e,hc,hS⟩:=h
 exact ⟨A,c,e,hc,hS.below hb⟩
structure PL8 (w:World) (g:Nat) (ls:List (List (List UInt8))) (k:Nat) (wr:World):Prop where
 bel:Below w.heap.size w wr
 row:∃vs:List Value,Blk wr g 22 vs.toArray∧AllS 0 wr vs (ls.map bss)∧(0<k→∃v0 l0 mid,vs[0]?=some v0∧ls[0]?=some l0∧wr.ownsRow (g+1) 9 1 v0 l0.length ((l0.map bs).map Value.string)∧(∀b,v0.ownBlock=some b→b<mid)∧g<mid∧mid≤wr.heap.size ∧
  ∀i v l,0<i→i<k→vs[i]?=some v→ls[i]?=some l→NewC mid wr v l)
theorem PL8.step {w wr w2:World} {g k:Nat} {ls:List (List (List UInt8))} (H:PL8 w g ls k wr) (hk:k<ls.length) {v':Value} (ho:w2.ownsRow wr.heap.size 9 1 v' (bss ls[k]).length ((bss ls[k]).map Value.string)) (hb2:Below wr.heap.size wr w2) (hg:w.heap.size≤g):PL8 w g ls (k+1) (w2.setCell ⟨g,k,none⟩ v'):=by
 obtain ⟨vs,hB,hA,h0⟩:=H.row
 have hB2:=hB.below hb2 hB.lt
 have hA2:=hA.below hb2
 have hkm:k<(ls.map bss).length:=by rw [List.length_map];exact hk
 have hgk:(ls.map bss)[k]=bss ls[k]:=List.getElem_map _
 obtain ⟨v,hv,hst,hm⟩:=hA.at_ hkm
 obtain ⟨A,c,rfl,hr⟩:=hst
 have hc2:w2.cell? ⟨g,k,none⟩=some (.slice A (ls.map bss)[k].length c):=by rw [hB2.cell k];simpa using hv
 have hN:NewC wr.heap.size w2 v' ls[k]:=by
  obtain ⟨A',c',rfl⟩:=own_slN ho
  have hl:(bss ls[k]).length=ls[k].length:=by rw [bss,List.length_map]
  rw [hl] at ho ⊢
  exact newC_own ho rfl
 have hlk:k<vs.length:=by rw [hA.1];exact hkm
 have hgl:=hB.lt
 refine ⟨(H.bel.trans (hb2.mono H.bel.size)).setCell (p:=⟨g,k,none⟩) hg v',vs.set k v',?_,?_,fun _=>?_⟩
 ·have:=hB2.set_ k v'
  simpa using this
 ·refine (hA2.set hc2 v').put hkm ?_
  rw [hgk]
  exact (hN.mono (Nat.zero_le _)).strs.set hc2 v'
 ·by_cases hk0:k=0
  ·subst hk0
   refine ⟨v',ls[0],w2.heap.size,List.getElem?_set_self hlk,List.getElem?_eq_getElem hk,?_,fun b hb=>(ho.lt b hb).2,Nat.lt_of_lt_of_le hgl hb2.size,by simp [World.setCell],fun i v l h1 h2=>by omega⟩
   have ho2:=own_setK (ho.mono (Nat.succ_le_of_lt hgl)) hB2 (by decide) 0 v'
   have hl:(bss ls[0]).length=ls[0].length:=by rw [bss,List.length_map]
   rw [hl] at ho2
   exact ho2
  ·obtain ⟨v0,l0,mid,e0,e1,ho0,hlt,hgm,hmz,hre⟩:=h0 (by omega)
   refine ⟨v0,l0,mid,by rw [List.getElem?_set_ne hk0];exact e0,e1,own_setK (own_belowN ho0 hb2) hB2 (by decide) k v',hlt,hgm,by simpa [World.setCell] using Nat.le_trans hmz hb2.size,fun i v l h1 h2 h3 h4=>?_⟩
   by_cases hik:i=k
   ·subst hik
    rw [List.getElem?_set_self hlk] at h3
    rw [List.getElem?_eq_getElem hk] at h4
    cases h3
    cases h4
    exact (hN.mono hmz).setSl hc2 _
   ·rw [List.getElem?_set_ne (Ne.symm hik)] at h3
    exact ((hre i v l h1 (by omega) h3 h4).belowW hb2).setSl hc2 _
theorem plown_any {v0 v1 v2 v3 v4 v5 v6 v7:Value} {ls:List (List (List UInt8))} {w:World} (h:AllS 0 w [v0,v1,v2,v3,v4,v5,v6,v7] (ls.map bss)) (hb:∀l∈ls,l.length≤1000000) :
  Calls Tryz.prog 234 #[.agg #[v0,v1,v2,v3,v4,v5,v6,v7]] w fun e w'=>∃g,e=.returned (.slice (some ⟨g,0,none⟩) 8 8)∧w.heap.size≤g∧PL8 w g ls 8 w':=by
 have hl:ls.length=8:=by have:=h.1;rw [List.length_map] at this;exact this.symm
 obtain ⟨⟨A0,n0,c0,rfl⟩,⟨A1,n1,c1,rfl⟩,⟨A2,n2,c2,rfl⟩,⟨A3,n3,c3,rfl⟩,⟨A4,n4,c4,rfl⟩,⟨A5,n5,c5,rfl⟩,⟨A6,n6,c6,rfl⟩,⟨A7,n7,c7,rfl⟩⟩:=h.sl8
 have Hb:=hide hb
 clear hb
 have hk0:=Blk.new (w.alloc (.cells #[.slice A0 n0 c0,.slice A1 n1 c1,.slice A2 n2 c2,.slice A3 n3 c3,.slice A4 n4 c4,.slice A5 n5 c5,.slice A6 n6 c6,.slice A7 n7 c7] 24)) 22 #[.slice A0 n0 c0,.slice A1 n1 c1,.slice A2 n2 c2,.slice A3 n3 c3,.slice A4 n4 c4,.slice A5 n5 c5,.slice A6 n6 c6,.slice A7 n7 c7]
 have hbel:Below w.heap.size w ((w.alloc (.cells #[.slice A0 n0 c0,.slice A1 n1 c1,.slice A2 n2 c2,.slice A3 n3 c3,.slice A4 n4 c4,.slice A5 n5 c5,.slice A6 n6 c6,.slice A7 n7 c7] 24)).alloc (.cells #[.slice A0 n0 c0,.slice A1 n1 c1,.slice A2 n2 c2,.slice A3 n3 c3,.slice A4 n4 c4,.slice A5 n5 c5,.slice A6 n6 c6,.slice A7 n7 c7] 22)):=by exact bel_by
 rw [World.size_alloc] at hk0
 have Hr0:=hide (show PL8 w (w.heap.size+1) ls 0 _ from ⟨hbel,_,hk0,(h.alloc (.cells #[.slice A0 n0 c0,.slice A1 n1 c1,.slice A2 n2 c2,.slice A3 n3 c3,.slice A4 n4 c4,.slice A5 n5 c5,.slice A6 n6 c6,.slice A7 n7 c7] 24)).alloc (.cells #[.slice A0 n0 c0,.slice A1 n1 c1,.slice A2 n2 c2,.slice A3 n3 c3,.slice A4 n4 c4,.slice A5 n5 c5,.slice A6 n6 c6,.slice A7 n7 c7] 22),fun h=>absurd h (by omega)⟩)
 clear hk0 hbel h
 go_enter Tryz.func234,Tryz.ntmps234
 go_wp2
 go_loopw [24,4] (fun i _ wr=>∃k:Nat,k≤8∧i=.int .i64 k∧Hid (PL8 w (w.heap.size+1) ls k wr)) (fun i _ _=>8 - (intOf i).toNat)
 case atStart=>exact ⟨0,by omega,rfl,Hr0⟩
 case round =>
  obtain ⟨k,hk8,rfl,HP⟩:=hrel
  by_cases hlt:k<8
  ·have hkc:k<ls.length:=by omega
   have hkm:k<(ls.map bss).length:=by rw [List.length_map];exact hkc
   have hgk:(ls.map bss)[k]=bss ls[k]:=List.getElem_map _
   obtain ⟨vs,hB,hA,_⟩:=HP.out.row
   obtain ⟨A,c,hc,hst,hm⟩:=Row8.at_ ⟨vs,hB,hA⟩ hkm
   have hlen:(bss ls[k]).length≤8796093022207:=by rw [bss,List.length_map];have:=Hb.out (ls[k]'hkc) (List.getElem_mem hkc);omega
   rw [hgk] at hc hst
   have hki:(k:Int)<8:=by omega
   have hgl:=hB.lt
   have hfz:=hB.frozen k
   have HC:=hide (clone_own hst hlen)
   have HS:=hide (fun (w2:World) (v':Value) (ho:w2.ownsRow wr.heap.size 9 1 v' (bss ls[k]).length ((bss ls[k]).map Value.string)) (hb2:Below wr.heap.size wr w2)=>HP.out.step hkc ho hb2 (Nat.le_succ _))
   have HB:=hide hB
   generalize hlL:(bss ls[k]).length=nL at hc HC HS
   clear hA hst hgk hlen hlL hB hm
   go_wp2_with (go_at_call 117;refine HC.out.mono ?_;rintro e w2 ⟨v',rfl,ho,hb2⟩;obtain ⟨A2,c2,rfl⟩:=own_slN ho;have hB2:=HB.out.below hb2 hgl;have hfz2:=hB2.frozen k;have hc2:=(hb2.cell (p:=⟨w.heap.size+1,k,none⟩) hgl).trans hc;have HN:=hide (HS.out w2 _ ho hb2))
   go_roundw
   case rel=>exact ⟨k+1,by omega,by go_num,HN⟩
   case measure=>simp [intOf];omega
  ·have hki:¬ (k:Int)<8:=by omega
   have hk8':k=8:=by omega
   subst hk8'
   go_wp2
   go_ret
   exact ⟨_,rfl,Nat.le_succ _,HP.out⟩
end Go.Proofs.YtihfpbaaiedfbaaGreatDoor
