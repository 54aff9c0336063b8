/- Several of my texts in one: RRead, RefG, ReX, PrfG, KxRG, Kx6. -/
import Derived.Test.YtnhekaepgpbijaaGreatDoorHRGetXG
import Derived.Test.YtnhekaepgpbijaaGreatDoorHDecWG
import Derived.Test.YtnhekaepgpbijaaGreatDoorHGetsG
import Derived.Test.YtnhekaepgpbijaaGreatDoorHMkrG
import Derived.Test.YtnhekaepgpbijaaGreatDoorHPayMG
import Derived.Deep.RegionWith
import Derived.Deep.Onto
import Derived.Test.YtnhekaepgpbijaaGreatDoorHParseAG
set_option linter.unusedVariables false
set_option linter.unusedSimpArgs false
set_option maxHeartbeats 40000000
set_option maxRecDepth 100000
namespace Go.Proofs.YtnhekaepgpbijaaGreatDoor
open Go.RowKit Go.ChangeShapes Go.WideShapes Go.Sort
theorem two_fin {w:World} {r:Nat} {t:TypeId} {o0 o1:Value} (h:Blk w r t #[o0,o1]) (v0 v1:Value):Blk ((w.setCell ⟨r,0,none⟩ v0).setCell ⟨r,1,none⟩ v1) r t #[v0,v1]:=by
 have h1:=(h.set_ 0 v0).set_ 1 v1
 simpa using h1
structure RReadI (w:World) (f:ByteArray) (R:RdR) (i:Nat) (A:Option Addr) (c:Nat) (wr:World):Prop where
 bel:Below w.heap.size w wr
 eb:Blk wr w.heap.size 45 #[.int .i64 0,.string ⟨#[]⟩]
 st:∃zs r',FOwn (w.heap.size+2) wr A i c zs∧Rd3 wr (w.heap.size+1) r' 0∧r'.length≤1000000∧R=consAll (zs.map (·.1)) (readFs (f.data.toList.drop i) r' i)
end Go.Proofs.YtnhekaepgpbijaaGreatDoor
namespace Go.Proofs.YtnhekaepgpbijaaGreatDoor
open Go.RowKit
def table:List (Int × ByteArray × List ByteArray):=[
 (1,⟨#[100,105,115,99,111,110,110,101,99,116]⟩,[⟨#[117,115,115]⟩]),
 (2,⟨#[105,103,110,111,114,101]⟩,[⟨#[115]⟩]),
 (3,⟨#[117,110,105,109,112,108,101,109,101,110,116,101,100]⟩,[⟨#[117]⟩]),
 (4,⟨#[100,101,98,117,103]⟩,[⟨#[98,115,115]⟩]),
 (5,⟨#[115,101,114,118,105,99,101,45,114,101,113,117,101,115,116]⟩,[⟨#[115]⟩]),
 (6,⟨#[115,101,114,118,105,99,101,45,97,99,99,101,112,116]⟩,[⟨#[115]⟩]),
 (7,⟨#[101,120,116,45,105,110,102,111]⟩,[⟨#[101]⟩]),
 (20,⟨#[107,101,120,105,110,105,116]⟩,[⟨#[99,110,110,110,110,110,110,110,110,110,110,98,117]⟩]),
 (21,⟨#[110,101,119,107,101,121,115]⟩,[⟨#[]⟩]),
 (30,⟨#[101,99,100,104,45,105,110,105,116]⟩,[⟨#[116]⟩]),
 (31,⟨#[114,101,112,108,121,45,111,114,45,103,114,111,117,112]⟩,[⟨#[116,116,116]⟩,⟨#[109,109]⟩]),
 (32,⟨#[103,101,120,45,105,110,105,116]⟩,[⟨#[116]⟩]),
 (33,⟨#[103,101,120,45,114,101,112,108,121]⟩,[⟨#[116,116,116]⟩]),
 (34,⟨#[103,101,120,45,114,101,113,117,101,115,116]⟩,[⟨#[117,117,117]⟩]),
 (50,⟨#[117,115,101,114,97,117,116,104,45,114,101,113,117,101,115,116]⟩,[⟨#[115,115,115]⟩,⟨#[115,115,115,98,115,116]⟩,⟨#[115,115,115,98,115,116,116]⟩]),
 (51,⟨#[117,115,101,114,97,117,116,104,45,102,97,105,108,117,114,101]⟩,[⟨#[110,98]⟩]),
 (52,⟨#[117,115,101,114,97,117,116,104,45,115,117,99,99,101,115,115]⟩,[⟨#[]⟩]),
 (53,⟨#[117,115,101,114,97,117,116,104,45,98,97,110,110,101,114]⟩,[⟨#[115,115]⟩]),
 (60,⟨#[117,115,101,114,97,117,116,104,45,112,107,45,111,107]⟩,[⟨#[115,116]⟩])]

@[go_sem] theorem row_field1 (a b c:Value) (w:World):(Instr.field 151 (.agg #[a,b,c]) 1).run Tryz.prog w=.ok b w:=by kernel_rfl
@[go_sem] theorem row_field2 (a b c:Value) (w:World):(Instr.field 151 (.agg #[a,b,c]) 2).run Tryz.prog w=.ok c w:=by kernel_rfl
end Go.Proofs.YtnhekaepgpbijaaGreatDoor

namespace Go.Proofs.YtnhekaepgpbijaaGreatDoor
open Go.RowKit Go.ChangeShapes Go.WideShapes Go.Sort
structure TwoB (w:World) (h:Nat) (a b c d:Value):Prop where
 m:Blk w h 55 #[a,b]
 e:Blk w (h+1) 45 #[c,d]
theorem TwoB.below {w w':World} {h:Nat} {a b c d:Value} (t:TwoB w h a b c d) (hb:Below w.heap.size w w'):TwoB w' h a b c d:=⟨t.m.below hb t.m.lt,t.e.below hb t.e.lt⟩
theorem TwoB.set {w:World} {h:Nat} {a b c d:Value} (t:TwoB w h a b c d) (v0 v1 u0 u1:Value):TwoB ((((w.setCell ⟨h,0,none⟩ v0).setCell ⟨h,1,none⟩ v1).setCell ⟨h+1,0,none⟩ u0).setCell ⟨h+1,1,none⟩ u1) h v0 v1 u0 u1:=by
 have h1:=two_fin t.m v0 v1
 have h2:=(t.e.far (p:=⟨h,0,none⟩) (by simp) v0).far (p:=⟨h,1,none⟩) (by simp) v1
 exact ⟨(h1.far (p:=⟨h+1,0,none⟩) (by simp) u0).far (p:=⟨h+1,1,none⟩) (by simp) u1,two_fin h2 u0 u1⟩
theorem TwoB.bel {B:Nat} {w0 w:World} {h:Nat} (hb:Below B w0 w) (hh:B≤h) (v0 v1 u0 u1:Value):Below B w0 ((((w.setCell ⟨h,0,none⟩ v0).setCell ⟨h,1,none⟩ v1).setCell ⟨h+1,0,none⟩ u0).setCell ⟨h+1,1,none⟩ u1) :=
 (((hb.setCell (p:=⟨h,0,none⟩) hh v0).setCell (p:=⟨h,1,none⟩) hh v1).setCell (p:=⟨h+1,0,none⟩) (Nat.le_succ_of_le hh) u0).setCell (p:=⟨h+1,1,none⟩) (Nat.le_succ_of_le hh) u1
theorem TwoB.flds {lo:Nat} {w:World} {A:Option Addr} {l:List Fld} {h:Nat} (hf:FldsN lo w A l) (hh:h+1<lo) (v0 v1 u0 u1:Value):FldsN lo ((((w.setCell ⟨h,0,none⟩ v0).setCell ⟨h,1,none⟩ v1).setCell ⟨h+1,0,none⟩ u0).setCell ⟨h+1,1,none⟩ u1) A l :=
 (((hf.setCell (p:=⟨h,0,none⟩) (by show h<lo;omega) v0).setCell (p:=⟨h,1,none⟩) (by show h<lo;omega) v1).setCell (p:=⟨h+1,0,none⟩) hh u0).setCell (p:=⟨h+1,1,none⟩) hh u1
structure RDecI (w:World) (p:List UInt8) (fs:List ByteArray) (num:Nat) (fv:Value) (b4 j:Nat) (wr:World):Prop where
 bel:Below w.heap.size w wr
 two:TwoB wr w.heap.size (.int .i64 0) (.slice none 0 0) (.int .i64 0) (.string ⟨#[]⟩)
 row:Blk wr b4 151 #[.int .i64 num,.string (word (num:Nat)),fv]
 rest:firstF fs (p.drop 1)=firstF (fs.drop j) (p.drop 1)
structure REncI (w:World) (num:Int) (l:List Fld) (A:Option Addr) (c:Nat) (f:ByteArray) (i:Nat) (out:List UInt8) (wr:World):Prop where
 bel:Below w.heap.size w wr
 box:Blk wr w.heap.size 55 #[.int .i64 num,.slice A l.length c]
 eb:Blk wr (w.heap.size+1) 45 #[.int .i64 0,.string ⟨#[]⟩]
 go:encGo (f.data.toList.drop i) (l.drop i) i out=encS num l
 len:out.length≤32768
end Go.Proofs.YtnhekaepgpbijaaGreatDoor

namespace Go.Proofs.YtnhekaepgpbijaaGreatDoor
end Go.Proofs.YtnhekaepgpbijaaGreatDoor

namespace Go.Proofs.YtnhekaepgpbijaaGreatDoor
open Go.RowKit Go.ChangeShapes Go.WideShapes Go.Sort
theorem own_setK {W:World} {B g size n:Nat} {e t:TypeId} {v:Value} {xs:List Value} {cs:Array Value} (h:W.ownsRow B e size v n xs) (hb:Blk W g t cs) (hne:e≠t) (c:Nat) (u:Value):(W.setCell ⟨g,c,none⟩ u).ownsRow B e size v n xs :=
 h.kept (only_setCell (only_refl W (some g)) (.inl rfl) u) (.inr (own_blk_ne h hb hne))
structure MkMsg (lo:Nat) (mb:Nat) (num:Int) (A:Option Addr) (n c:Nat) (zs:List (Fld × Value)) (w:World):Prop where
 len:zs.length=n
 m:Blk w mb 55 #[.int .i64 num,.slice A n c]
 own:w.ownsRow lo 60 4 (.slice A n c) n (fcs zs)
end Go.Proofs.YtnhekaepgpbijaaGreatDoor

namespace Go.Proofs.YtnhekaepgpbijaaGreatDoor
open Go.RowKit
theorem infoStrX:(Tryz.prog.info? 9).map (fun i=>(i.zero,i.size,i.bytes))=some (some (.string ByteArray.empty),1,16):=by kernel_rfl
def AllS (lo:Nat) (w:World) (vs:List Value) (ss:List (List ByteArray)):Prop :=
 vs.length=ss.length∧∀(i:Nat) (v:Value) (s:List ByteArray),vs[i]?=some v→ss[i]?=some s→Strs lo w v s∧s.length≤9223372036854775807
theorem AllS.below {lo:Nat} {w w':World} {vs:List Value} {ss:List (List ByteArray)} (h:AllS lo w vs ss) (hb:Below w.heap.size w w'):AllS lo w' vs ss :=
 ⟨h.1,fun i v s h1 h2=>⟨(h.2 i v s h1 h2).1.below hb,(h.2 i v s h1 h2).2⟩⟩
theorem AllS.alloc {lo:Nat} {w:World} {vs:List Value} {ss:List (List ByteArray)} (h:AllS lo w vs ss) (o:Obj):AllS lo (w.alloc o) vs ss:=h.below ((Below.refl _ _).alloc (Nat.le_refl _) o)
theorem AllS.at_ {lo:Nat} {w:World} {vs:List Value} {ss:List (List ByteArray)} (h:AllS lo w vs ss) {i:Nat} (hi:i<ss.length):∃v,vs[i]?=some v∧Strs lo w v ss[i]∧ss[i].length≤9223372036854775807:=by
 have hl:i<vs.length:=by rw [h.1];exact hi
 exact ⟨vs[i],List.getElem?_eq_getElem hl,h.2 i _ _ (List.getElem?_eq_getElem hl) (List.getElem?_eq_getElem hi)⟩
def fewL (s:List ByteArray):Bool:=decide (s.length≤20) && s.all fun x=>decide (x.size≤100)
def fewLs (ss:List (List ByteArray)):Bool:=ss.all fewL

def IsSl (v:Value):Prop:=∃A n c,v=.slice A n c
theorem Strs.isSl {lo:Nat} {w:World} {v:Value} {s:List ByteArray} (h:Strs lo w v s):IsSl v:=let ⟨A,c,e,_⟩:=h;⟨A,_,c,e⟩
theorem AllS.isSl {lo:Nat} {w:World} {vs:List Value} {ss:List (List ByteArray)} (h:AllS lo w vs ss) {i:Nat} {v:Value} (hv:vs[i]?=some v):IsSl v:=by
 have hl:i<ss.length:=by rw [←h.1];exact (List.getElem?_eq_some_iff.1 hv).1
 exact (h.2 i v _ hv (List.getElem?_eq_getElem hl)).1.isSl
theorem AllS.sl8 {lo:Nat} {w:World} {v0 v1 v2 v3 v4 v5 v6 v7:Value} {ss:List (List ByteArray)} (h:AllS lo w [v0,v1,v2,v3,v4,v5,v6,v7] ss):IsSl v0∧IsSl v1∧IsSl v2∧IsSl v3∧IsSl v4∧IsSl v5∧IsSl v6∧IsSl v7 :=
 ⟨h.isSl (i:=0) rfl,h.isSl (i:=1) rfl,h.isSl (i:=2) rfl,h.isSl (i:=3) rfl,h.isSl (i:=4) rfl,h.isSl (i:=5) rfl,h.isSl (i:=6) rfl,h.isSl (i:=7) rfl⟩
theorem rlists_any {v0 v1 v2 v3 v4 v5 v6 v7:Value} (w:World) (hs:IsSl v0∧IsSl v1∧IsSl v2∧IsSl v3∧IsSl v4∧IsSl v5∧IsSl v6∧IsSl v7) :
  Calls Tryz.prog 137 #[.agg #[v0,v1,v2,v3,v4,v5,v6,v7]] w fun e w'=>e=.returned (.slice (some ⟨w.heap.size+1,0,none⟩) 8 8)∧Blk w' (w.heap.size+1) 22 #[v0,v1,v2,v3,v4,v5,v6,v7]∧Below w.heap.size w w':=by
 obtain ⟨⟨A0,n0,c0,rfl⟩,⟨A1,n1,c1,rfl⟩,⟨A2,n2,c2,rfl⟩,⟨A3,n3,c3,rfl⟩,⟨A4,n4,c4,rfl⟩,⟨A5,n5,c5,rfl⟩,⟨A6,n6,c6,rfl⟩,⟨A7,n7,c7,rfl⟩⟩:=hs
 go_enter Tryz.func137,Tryz.ntmps137
 go_wp2
 go_ret
 refine ⟨rfl,?_,by exact bel_by⟩
 have:=Blk.new (w.alloc (.cells #[.slice A0 n0 c0,.slice A1 n1 c1,.slice A2 n2 c2,.slice A3 n3 c3,.slice A4 n4 c4,.slice A5 n5 c5,.slice A6 n6 c6,.slice A7 n7 c7] 24)) 22 #[.slice A0 n0 c0,.slice A1 n1 c1,.slice A2 n2 c2,.slice A3 n3 c3,.slice A4 n4 c4,.slice A5 n5 c5,.slice A6 n6 c6,.slice A7 n7 c7]
 rwa [World.size_alloc] at this
theorem fewL_of {s:List ByteArray} (h1:s.length≤20) (h2:∀(j:Nat) (x:ByteArray),s[j]?=some x→x.size≤100):fewL s=true:=by
 unfold fewL
 simp only [Bool.and_eq_true,decide_eq_true_eq,List.all_eq_true]
 refine ⟨h1,fun x hx=>?_⟩
 obtain ⟨j,hj,rfl⟩:=List.getElem_of_mem hx
 exact h2 j _ (List.getElem?_eq_getElem hj)
theorem fewL_long {s:List ByteArray} (h1:¬ s.length≤20):fewL s=false:=by
 unfold fewL
 simp [h1]
theorem fewL_big {s:List ByteArray} {j:Nat} (hj:j<s.length) (h1:¬ s[j].size≤100):fewL s=false:=by
 unfold fewL
 rw [Bool.and_eq_false_iff]
 right
 rw [List.all_eq_false]
 exact ⟨_,List.getElem_mem hj,by simpa using h1⟩
theorem fewLs_no {ss:List (List ByteArray)} {i:Nat} (hi:i<ss.length) (h:fewL ss[i]=false):fewLs ss=false:=by
 unfold fewLs
 rw [List.all_eq_false]
 exact ⟨_,List.getElem_mem hi,by simp [h]⟩
theorem few15_any {lo:Nat} {v0 v1 v2 v3 v4 v5 v6 v7:Value} {ss:List (List ByteArray)} {w:World} (h:AllS lo w [v0,v1,v2,v3,v4,v5,v6,v7] ss) :
  Calls Tryz.prog 80 #[.agg #[v0,v1,v2,v3,v4,v5,v6,v7]] w fun e w'=>e=.returned (.bool (fewLs ss))∧Below w.heap.size w w':=by
 have hl:ss.length=8:=h.1.symm
 have hsl:=h.sl8
 go_enter Tryz.func80,Tryz.ntmps80
 go_wp2_with (go_at_call 137;refine (rlists_any _ hsl).mono ?_;rintro e w1 ⟨rfl,hk,hb⟩)
 have hb1:Below w.heap.size w w1:=bel_trans ((Below.refl _ _).alloc (Nat.le_refl _) _) hb
 have h1:=h.below hb1
 have hs1:=hk.lt
 have hz:=hb1.size
 clear hb h
 rw [World.size_alloc] at hk hs1
 generalize w.heap.size+1+1=g at hk hs1 ⊢
 go_loop [4] (fun i=>∃k:Nat,k≤8∧i=.int .i64 k∧∀(j:Nat) (s:List ByteArray),j<k→ss[j]?=some s→fewL s=true) (fun i=>8 - (intOf i).toNat)
 case atStart=>exact ⟨0,by omega,rfl,by simp⟩
 case round =>
  obtain ⟨k,hk8,rfl,hall⟩:=hrel
  have Hall:=hide hall
  clear hall
  by_cases hlt:k<8
  ·obtain ⟨v,hv,⟨A,c,rfl,hr⟩,hm⟩:=h1.at_ (i:=k) (by omega)
   have hkc:k<ss.length:=by omega
   have hcell:w1.cell? ⟨g,k,none⟩=some (.slice A (ss[k]'hkc).length c):=by rw [hk.cell k];simpa using hv
   clear hv
   by_cases h20:(ss[k]'hkc).length≤20
   ·have h20':((ss[k]'hkc).length:Int)≤20:=by omega
    have hki:(k:Int)<8:=by omega
    go_wp2
    go_loop [5] (fun i=>∃j:Nat,j≤(ss[k]'hkc).length∧i=.int .i64 j∧∀(p:Nat) (x:ByteArray),p<j→(ss[k]'hkc)[p]?=some x→x.size≤100) (fun i=>(ss[k]'hkc).length - (intOf i).toNat)
    case atStart=>exact ⟨0,by omega,rfl,by simp⟩
    case round =>
     obtain ⟨j,hj,rfl,hin⟩:=hrel
     have Hin:=hide hin
     clear hin
     by_cases hjl:j<(ss[k]'hkc).length
     ·obtain ⟨ad,rfl,_,hc0⟩:=hr.str hjl
      have hji:(j:Int)<(ss[k]'hkc).length:=by omega
      by_cases hx:((ss[k]'hkc)[j]).size≤100
      ·have hx':(((ss[k]'hkc)[j]).size:Int)≤100:=by omega
       have Hx:=hide hx
       clear hx
       go_wp2
       go_round
       case rel =>
        refine ⟨j+1,hjl,by go_num,fun p x hp hpx=>?_⟩
        rcases Nat.lt_or_ge p j with h2 | h2
        ·exact Hin.out p x h2 hpx
        ·obtain rfl:p=j:=by omega
         rw [List.getElem?_eq_getElem hjl] at hpx
         cases hpx
         exact Hx.out
       case measure=>simp [intOf];omega
      ·have Hf:=hide (fewLs_no hkc (fewL_big hjl hx))
       have hx':¬ (((ss[k]'hkc)[j]).size:Int)≤100:=by omega
       clear hx
       go_wp2
       go_ret
       exact ⟨ret_bool Hf.out.symm,hb1⟩
     ·have Hf:=hide (fewL_of h20 fun p x hpx=>Hin.out p x (by have:=(List.getElem?_eq_some_iff.1 hpx).1;omega) hpx)
      have hji:¬ (j:Int)<(ss[k]'hkc).length:=by omega
      go_wp2
      go_round
      case rel =>
       refine ⟨k+1,by omega,by go_num,fun p s hp hps=>?_⟩
       rcases Nat.lt_or_ge p k with h2 | h2
       ·exact Hall.out p s h2 hps
       ·obtain rfl:p=k:=by omega
        rw [List.getElem?_eq_getElem hkc] at hps
        cases hps
        exact Hf.out
      case measure=>simp [intOf];omega
   ·have Hf:=hide (fewLs_no hkc (fewL_long h20))
    have h20':¬ ((ss[k]'hkc).length:Int)≤20:=by omega
    have hki:(k:Int)<8:=by omega
    go_wp2
    go_ret
    exact ⟨ret_bool Hf.out.symm,hb1⟩
  ·have Hf:=hide (show fewLs ss=true from List.all_eq_true.2 fun s hs=>by
    obtain ⟨j,hj,rfl⟩:=List.getElem_of_mem hs
    exact Hall.out j _ (by omega) (List.getElem?_eq_getElem hj))
   have hki:¬ (k:Int)<8:=by omega
   go_wp2
   go_ret
   exact ⟨ret_bool Hf.out.symm,hb1⟩
theorem Strs.set {lo:Nat} {w:World} {v:Value} {s:List ByteArray} (h:Strs lo w v s) {p:Addr} {A:Option Addr} {n c:Nat} (hp:w.cell? p=some (.slice A n c)) (u:Value):Strs lo (w.setCell p u) v s:=by
 obtain ⟨B,d,rfl,hl,hr⟩:=h
 refine ⟨B,d,rfl,hl,fun hn=>?_⟩
 obtain ⟨ad,e,h1,h2,h3⟩:=hr hn
 refine ⟨ad,e,h1,by simpa [World.setCell] using h2,fun j x hx=>?_⟩
 have h4:=h3 j x hx
 rw [World.cell?_setCell_other w p _ u ?_]
 ·exact h4
 ·intro e2
  rw [←e2,hp] at h4
  rw [List.getElem?_map] at hx
  cases hs:s[j]? with
  | none=>rw [hs] at hx;cases hx
  | some y=>rw [hs] at hx;simp at hx;rw [←hx] at h4;cases h4
theorem AllS.set {lo:Nat} {w:World} {vs:List Value} {ss:List (List ByteArray)} (h:AllS lo w vs ss) {p:Addr} {A:Option Addr} {n c:Nat} (hp:w.cell? p=some (.slice A n c)) (u:Value):AllS lo (w.setCell p u) vs ss :=
 ⟨h.1,fun i v s h1 h2=>⟨(h.2 i v s h1 h2).1.set hp u,(h.2 i v s h1 h2).2⟩⟩
theorem AllS.put {lo:Nat} {w:World} {vs:List Value} {ss:List (List ByteArray)} (h:AllS lo w vs ss) {k:Nat} {v:Value} (hk:k<ss.length) (hv:Strs lo w v ss[k]):AllS lo w (vs.set k v) ss:=by
 refine ⟨by rw [List.length_set];exact h.1,fun i u s h1 h2=>?_⟩
 by_cases hi:i=k
 ·subst hi
  rw [List.getElem?_set_self (by rw [h.1];exact hk)] at h1
  rw [List.getElem?_eq_getElem hk] at h2
  cases h1
  cases h2
  exact ⟨hv,((h.at_ hk).choose_spec).2.2⟩
 ·rw [List.getElem?_set_ne (Ne.symm hi)] at h1
  exact h.2 i u s h1 h2
def Row8 (w:World) (g:Nat) (ss:List (List ByteArray)):Prop:=∃vs:List Value,Blk w g 22 vs.toArray∧AllS 0 w vs ss
theorem Row8.below {w w':World} {g:Nat} {ss:List (List ByteArray)} (h:Row8 w g ss) (hb:Below w.heap.size w w'):Row8 w' g ss :=
 let ⟨vs,h1,h2⟩:=h;⟨vs,h1.below hb h1.lt,h2.below hb⟩
theorem Row8.lt {w:World} {g:Nat} {ss:List (List ByteArray)} (h:Row8 w g ss):g<w.heap.size:=let ⟨_,h1,_⟩:=h;h1.lt
theorem Row8.drewN {w:World} {g:Nat} {ss:List (List ByteArray)} (h:Row8 w g ss) (n:Nat):Row8 (w.drewN n) g ss:=h
theorem Row8.at_ {w:World} {g:Nat} {ss:List (List ByteArray)} (h:Row8 w g ss) {k:Nat} (hk:k<ss.length):∃A c,w.cell? ⟨g,k,none⟩=some (.slice A ss[k].length c)∧Strs 0 w (.slice A ss[k].length c) ss[k]∧ss[k].length≤9223372036854775807:=by
 obtain ⟨vs,h1,h2⟩:=h
 obtain ⟨v,hv,⟨A,c,rfl,hr⟩,hm⟩:=h2.at_ hk
 exact ⟨A,c,by rw [h1.cell k];simpa using hv,⟨A,c,rfl,hr⟩,hm⟩
end Go.Proofs.YtnhekaepgpbijaaGreatDoor

namespace Go.Proofs.YtnhekaepgpbijaaGreatDoor
open Go.RowKit Go.ChangeShapes Go.WideShapes Go.Sort
theorem clone_own {lo:Nat} {v:Value} {ss:List ByteArray} {w:World} (h:Strs lo w v ss) (hb:ss.length≤8796093022207) :
  Calls Tryz.prog 143 #[v] w fun e w'=>∃v',e=.returned v'∧w'.ownsRow w.heap.size 9 1 v' ss.length (ss.map Value.string)∧Below w.heap.size w w':=by
 obtain ⟨A,c,rfl,hr⟩:=h
 obtain ⟨i0,hi,hz0,hz1,hz2⟩:=info_parts infoStrX
 have q:∀(w:World) (a:Option Addr) (n c n' c':Nat),(binOp .eql 22 (.slice a n c) (.slice none n' c')).run Tryz.prog w=.ok (.bool a.isNone) w:=fun w a n c n' c'=>Lib.run_eql_slice_nil w _ _ a n c n' c' Tryz.underlying22
 cases A with
 | none =>
  have h0:ss=[]:=by
   rcases Nat.eq_zero_or_pos ss.length with h0 | h0
   ·exact List.eq_nil_of_length_eq_zero h0
   ·obtain ⟨ad,h,_⟩:=hr.2 h0
    cases h
  subst h0
  go_enter Tryz.func143,Tryz.ntmps143
  go_wp2
  go_ret
  exact ⟨_,rfl,World.ownsRow_nil _ _ _ _,Below.refl _ _⟩
 | some ad =>
  have hr':=(hr.alloc (.cells #[] 9)).reads
  have hone:∀u∈ss.map Value.string,u.oneCell'=true:=by
   intro u hu
   obtain ⟨s,_,rfl⟩:=List.mem_map.1 hu
   rfl
  have Hone:=hide hone
  have Hr:=hide hr'
  clear hone hr' hr
  go_enter Tryz.func143,Tryz.ntmps143
  go_wp2_with (at_builtin;refine wpList_append_any _ rfl (.tmp 5) (.tmp 6) _ rfl w.heap.size 9 i0 (.string ByteArray.empty) 1 16 Tryz.underlying22 hi hz0 hz1 hz2 rfl (by decide) _ 0 [] rfl (World.ownsRow_made w #[] 0 (Nat.le_refl _) (Nat.zero_le _) (by simp)) (w.heap.size+1) (some ad) ss.length c (ss.map Value.string) rfl (by simpa using Hr.out) Hone.out (by unfold maxLen;omega) (by omega) (by simp) ?_;intro v' w1 hown hgrow _)
  rw [Nat.zero_add,List.nil_append] at hown
  go_wp2
  go_ret
  refine ⟨v',rfl,hown,?_⟩
  exact ((Below.refl _ w).alloc (Nat.le_refl _) _).grown hgrow (by simp) (by rintro k ⟨⟩;exact Nat.le_refl _)
def bss (l:List (List UInt8)):List ByteArray:=l.map bs
theorem NewC.strs {lo:Nat} {w:World} {v:Value} {ls:List (List UInt8)} (h:NewC lo w v ls):Strs lo w v (bss ls):=by
 obtain ⟨A,c,rfl,_,hS⟩:=h
 exact ⟨A,c,by rw [bss,List.length_map],by rw [bss,List.length_map];exact hS⟩
theorem NewC.setSl {lo:Nat} {w:World} {v:Value} {ls:List (List UInt8)} (h:NewC lo w v ls) {p:Addr} {A:Option Addr} {n c:Nat} (hp:w.cell? p=some (.slice A n c)) (u:Value):NewC lo (w.setCell p u) v ls:=by
 have h2:=h.strs.set hp u
 obtain ⟨B,d,rfl,hc,_⟩:=h
 exact newC_of h2 hc
theorem NewC.belowW {lo:Nat} {w w':World} {v:Value} {ls:List (List UInt8)} (h:NewC lo w v ls) (hb:Below w.heap.size w w'):NewC lo w' v ls:=by
 obtain ⟨A,c,e,hc,hS⟩:=h
 exact ⟨A,c,e,hc,hS.below hb⟩
structure PL8 (w:World) (g:Nat) (ls:List (List (List UInt8))) (k:Nat) (wr:World):Prop where
 bel:Below w.heap.size w wr
 row:∃vs:List Value,Blk wr g 22 vs.toArray∧AllS 0 wr vs (ls.map bss)∧(0<k→∃v0 l0 mid,vs[0]?=some v0∧ls[0]?=some l0∧wr.ownsRow (g+1) 9 1 v0 l0.length ((l0.map bs).map Value.string)∧(∀b,v0.ownBlock=some b→b<mid)∧g<mid∧mid≤wr.heap.size ∧
  ∀i v l,0<i→i<k→vs[i]?=some v→ls[i]?=some l→NewC mid wr v l)
theorem PL8.step {w wr w2:World} {g k:Nat} {ls:List (List (List UInt8))} (H:PL8 w g ls k wr) (hk:k<ls.length) {v':Value} (ho:w2.ownsRow wr.heap.size 9 1 v' (bss ls[k]).length ((bss ls[k]).map Value.string)) (hb2:Below wr.heap.size wr w2) (hg:w.heap.size≤g):PL8 w g ls (k+1) (w2.setCell ⟨g,k,none⟩ v'):=by
 obtain ⟨vs,hB,hA,h0⟩:=H.row
 have hB2:=hB.below hb2 hB.lt
 have hA2:=hA.below hb2
 have hkm:k<(ls.map bss).length:=by rw [List.length_map];exact hk
 have hgk:(ls.map bss)[k]=bss ls[k]:=List.getElem_map _
 obtain ⟨v,hv,hst,hm⟩:=hA.at_ hkm
 obtain ⟨A,c,rfl,hr⟩:=hst
 have hc2:w2.cell? ⟨g,k,none⟩=some (.slice A (ls.map bss)[k].length c):=by rw [hB2.cell k];simpa using hv
 have hN:NewC wr.heap.size w2 v' ls[k]:=by
  obtain ⟨A',c',rfl⟩:=own_slN ho
  have hl:(bss ls[k]).length=ls[k].length:=by rw [bss,List.length_map]
  rw [hl] at ho ⊢
  exact newC_own ho rfl
 have hlk:k<vs.length:=by rw [hA.1];exact hkm
 have hgl:=hB.lt
 refine ⟨(H.bel.trans (hb2.mono H.bel.size)).setCell (p:=⟨g,k,none⟩) hg v',vs.set k v',?_,?_,fun _=>?_⟩
 ·have:=hB2.set_ k v'
  simpa using this
 ·refine (hA2.set hc2 v').put hkm ?_
  rw [hgk]
  exact (hN.mono (Nat.zero_le _)).strs.set hc2 v'
 ·by_cases hk0:k=0
  ·subst hk0
   refine ⟨v',ls[0],w2.heap.size,List.getElem?_set_self hlk,List.getElem?_eq_getElem hk,?_,fun b hb=>(ho.lt b hb).2,Nat.lt_of_lt_of_le hgl hb2.size,by simp [World.setCell],fun i v l h1 h2=>by omega⟩
   have ho2:=own_setK (ho.mono (Nat.succ_le_of_lt hgl)) hB2 (by decide) 0 v'
   have hl:(bss ls[0]).length=ls[0].length:=by rw [bss,List.length_map]
   rw [hl] at ho2
   exact ho2
  ·obtain ⟨v0,l0,mid,e0,e1,ho0,hlt,hgm,hmz,hre⟩:=h0 (by omega)
   refine ⟨v0,l0,mid,by rw [List.getElem?_set_ne hk0];exact e0,e1,own_setK (own_belowN ho0 hb2) hB2 (by decide) k v',hlt,hgm,by simpa [World.setCell] using Nat.le_trans hmz hb2.size,fun i v l h1 h2 h3 h4=>?_⟩
   by_cases hik:i=k
   ·subst hik
    rw [List.getElem?_set_self hlk] at h3
    rw [List.getElem?_eq_getElem hk] at h4
    cases h3
    cases h4
    exact (hN.mono hmz).setSl hc2 _
   ·rw [List.getElem?_set_ne (Ne.symm hik)] at h3
    exact ((hre i v l h1 (by omega) h3 h4).belowW hb2).setSl hc2 _
theorem plown_any {v0 v1 v2 v3 v4 v5 v6 v7:Value} {ls:List (List (List UInt8))} {w:World} (h:AllS 0 w [v0,v1,v2,v3,v4,v5,v6,v7] (ls.map bss)) (hb:∀l∈ls,l.length≤1000000) :
  Calls Tryz.prog 142 #[.agg #[v0,v1,v2,v3,v4,v5,v6,v7]] w fun e w'=>∃g,e=.returned (.slice (some ⟨g,0,none⟩) 8 8)∧w.heap.size≤g∧PL8 w g ls 8 w':=by
 have hl:ls.length=8:=by have:=h.1;rw [List.length_map] at this;exact this.symm
 obtain ⟨⟨A0,n0,c0,rfl⟩,⟨A1,n1,c1,rfl⟩,⟨A2,n2,c2,rfl⟩,⟨A3,n3,c3,rfl⟩,⟨A4,n4,c4,rfl⟩,⟨A5,n5,c5,rfl⟩,⟨A6,n6,c6,rfl⟩,⟨A7,n7,c7,rfl⟩⟩:=h.sl8
 have Hb:=hide hb
 clear hb
 have hk0:=Blk.new (w.alloc (.cells #[.slice A0 n0 c0,.slice A1 n1 c1,.slice A2 n2 c2,.slice A3 n3 c3,.slice A4 n4 c4,.slice A5 n5 c5,.slice A6 n6 c6,.slice A7 n7 c7] 24)) 22 #[.slice A0 n0 c0,.slice A1 n1 c1,.slice A2 n2 c2,.slice A3 n3 c3,.slice A4 n4 c4,.slice A5 n5 c5,.slice A6 n6 c6,.slice A7 n7 c7]
 have hbel:Below w.heap.size w ((w.alloc (.cells #[.slice A0 n0 c0,.slice A1 n1 c1,.slice A2 n2 c2,.slice A3 n3 c3,.slice A4 n4 c4,.slice A5 n5 c5,.slice A6 n6 c6,.slice A7 n7 c7] 24)).alloc (.cells #[.slice A0 n0 c0,.slice A1 n1 c1,.slice A2 n2 c2,.slice A3 n3 c3,.slice A4 n4 c4,.slice A5 n5 c5,.slice A6 n6 c6,.slice A7 n7 c7] 22)):=by exact bel_by
 rw [World.size_alloc] at hk0
 have Hr0:=hide (show PL8 w (w.heap.size+1) ls 0 _ from ⟨hbel,_,hk0,(h.alloc (.cells #[.slice A0 n0 c0,.slice A1 n1 c1,.slice A2 n2 c2,.slice A3 n3 c3,.slice A4 n4 c4,.slice A5 n5 c5,.slice A6 n6 c6,.slice A7 n7 c7] 24)).alloc (.cells #[.slice A0 n0 c0,.slice A1 n1 c1,.slice A2 n2 c2,.slice A3 n3 c3,.slice A4 n4 c4,.slice A5 n5 c5,.slice A6 n6 c6,.slice A7 n7 c7] 22),fun h=>absurd h (by omega)⟩)
 clear hk0 hbel h
 go_enter Tryz.func142,Tryz.ntmps142
 go_wp2
 go_loopw [24,4] (fun i _ wr=>∃k:Nat,k≤8∧i=.int .i64 k∧Hid (PL8 w (w.heap.size+1) ls k wr)) (fun i _ _=>8 - (intOf i).toNat)
 case atStart=>exact ⟨0,by omega,rfl,Hr0⟩
 case round =>
  obtain ⟨k,hk8,rfl,HP⟩:=hrel
  by_cases hlt:k<8
  ·have hkc:k<ls.length:=by omega
   have hkm:k<(ls.map bss).length:=by rw [List.length_map];exact hkc
   have hgk:(ls.map bss)[k]=bss ls[k]:=List.getElem_map _
   obtain ⟨vs,hB,hA,_⟩:=HP.out.row
   obtain ⟨A,c,hc,hst,hm⟩:=Row8.at_ ⟨vs,hB,hA⟩ hkm
   have hlen:(bss ls[k]).length≤8796093022207:=by rw [bss,List.length_map];have:=Hb.out (ls[k]'hkc) (List.getElem_mem hkc);omega
   rw [hgk] at hc hst
   have hki:(k:Int)<8:=by omega
   have hgl:=hB.lt
   have hfz:=hB.frozen k
   have HC:=hide (clone_own hst hlen)
   have HS:=hide (fun (w2:World) (v':Value) (ho:w2.ownsRow wr.heap.size 9 1 v' (bss ls[k]).length ((bss ls[k]).map Value.string)) (hb2:Below wr.heap.size wr w2)=>HP.out.step hkc ho hb2 (Nat.le_succ _))
   have HB:=hide hB
   generalize hlL:(bss ls[k]).length=nL at hc HC HS
   clear hA hst hgk hlen hlL hB hm
   go_wp2_with (go_at_call 143;refine HC.out.mono ?_;rintro e w2 ⟨v',rfl,ho,hb2⟩;obtain ⟨A2,c2,rfl⟩:=own_slN ho;have hB2:=HB.out.below hb2 hgl;have hfz2:=hB2.frozen k;have hc2:=(hb2.cell (p:=⟨w.heap.size+1,k,none⟩) hgl).trans hc;have HN:=hide (HS.out w2 _ ho hb2))
   go_roundw
   case rel=>exact ⟨k+1,by omega,by go_num,HN⟩
   case measure=>simp [intOf];omega
  ·have hki:¬ (k:Int)<8:=by omega
   have hk8':k=8:=by omega
   subst hk8'
   go_wp2
   go_ret
   exact ⟨_,rfl,Nat.le_succ _,HP.out⟩
def preM (a b c d:Bool):Nat→List (List UInt8)
 | 0=>[]
 | 1=>oneM a mark0
 | 2=>oneM a mark0++oneM b mark1
 | 3=>(oneM a mark0++oneM b mark1)++oneM c mark2
 | _=>((oneM a mark0++oneM b mark1)++oneM c mark2)++oneM d mark3
structure MarkI (w:World) (bb:Nat) (a b c d:Bool) (i:Nat) (A:Option Addr) (n cp:Nat) (wr:World):Prop where
 bel:Below w.heap.size w wr
 fl:Blk wr bb 4 #[.bool a,.bool b,.bool c,.bool d]
 len:n=(preM a b c d i).length
 own:wr.ownsRow (bb+1) 9 1 (.slice A n cp) n (((preM a b c d i).map bs).map Value.string)
end Go.Proofs.YtnhekaepgpbijaaGreatDoor

namespace Go.Proofs.YtnhekaepgpbijaaGreatDoor
structure KexI where
 ck:List UInt8
 kex:List (List UInt8)
 more:List (List (List UInt8))
 a:Bool
 b:Bool
 c:Bool
 d:Bool
 fo:Bool
end Go.Proofs.YtnhekaepgpbijaaGreatDoor

namespace Go.Proofs.YtnhekaepgpbijaaGreatDoor
open Go.RowKit Go.ChangeShapes Go.WideShapes Go.Sort
def AllC (w:World) (vs:List Value) (ls:List (List (List UInt8))):Prop:=vs.length=ls.length∧∀(i:Nat) v l,vs[i]?=some v→ls[i]?=some l→Txc w v l∧l.length≤1000000
theorem AllC.below {w w':World} {vs:List Value} {ls:List (List (List UInt8))} (h:AllC w vs ls) (hb:Below w.heap.size w w'):AllC w' vs ls :=
 ⟨h.1,fun i v l h1 h2=>⟨(h.2 i v l h1 h2).1.below hb,(h.2 i v l h1 h2).2⟩⟩
theorem Inn.setSl {lo:Nat} {v:Value} {w:World} {lv:Value} {ls:List (List UInt8)} (h:Inn lo v w lv ls) {p:Addr} {A:Option Addr} {n c:Nat} (hp:w.cell? p=some (.slice A n c)) (u:Value):Inn lo v (w.setCell p u) lv ls:=by
 obtain ⟨B,d,rfl,hc,hS,hn⟩:=h
 obtain ⟨B',d',e,_,hS'⟩:=NewC.setSl (lo:=lo) (ls:=ls) ⟨B,d,rfl,hc,hS⟩ hp u
 obtain rfl:B=B':=by injection e
 exact ⟨B,d,rfl,hc,hS',hn⟩
def Tn (w:World) (h:Nat) (vs:List Value):Prop:=∃cur:Array Value,Blk w h 22 cur∧∀(i:Nat) v,vs[i]?=some v→cur[i]?=some v
theorem Tn.at_ {w:World} {h:Nat} {vs:List Value} (t:Tn w h vs) {i:Nat} {v:Value} (hi:vs[i]?=some v):w.cell? ⟨h,i,none⟩=some v:=by
 obtain ⟨cur,hb,hc⟩:=t
 rw [hb.cell i,hc i v hi]
theorem MkMsg.below {lo mb:Nat} {num:Int} {A:Option Addr} {n c:Nat} {zs:List (Fld × Value)} {w w':World} (h:MkMsg lo mb num A n c zs w) (hb:Below w.heap.size w w'):MkMsg lo mb num A n c zs w' :=
 ⟨h.len,h.m.below hb h.m.lt,own_belowN h.own hb⟩
theorem MkMsg.grown {lo mb:Nat} {num:Int} {A:Option Addr} {n c:Nat} {zs:List (Fld × Value)} {w w':World} {row:Option Nat} (h:MkMsg lo mb num A n c zs w) (hg:w.grownBy w' row) (h1:some mb≠row) (h2:(Value.slice A n c).ownBlock=none∨(Value.slice A n c).ownBlock≠row):MkMsg lo mb num A n c zs w' :=
 ⟨h.len,h.m.grown hg h1,h.own.kept hg h2⟩
def Eight (w:World) (g:Nat) (ls:List (List (List UInt8))):Prop:=ls.length=8∧(∀l∈ls,l.length≤1000000)∧∀i l,ls[i]?=some l→∃A c,w.cell? ⟨g,i,none⟩=some (.slice A l.length c)∧Txs w (.slice A l.length c) l
theorem Eight.below {w w':World} {g:Nat} {ls:List (List (List UInt8))} (h:Eight w g ls) (hb:Below w.heap.size w w'):Eight w' g ls :=
 ⟨h.1,h.2.1,fun i s hi=>let ⟨A,c,h1,h2⟩:=h.2.2 i s hi;⟨A,c,(hb.cell (World.block_lt_of_cell? w _ h1)).trans h1,h2.below hb⟩⟩
theorem own_newC {w:World} {B:Nat} {v:Value} {l:List (List UInt8)} (h:w.ownsRow B 9 1 v (bss l).length ((bss l).map Value.string)):NewC B w v l:=by
 obtain ⟨A',c',rfl⟩:=own_slN h
 have hl:(bss l).length=l.length:=by rw [bss,List.length_map]
 rw [hl] at h ⊢
 exact newC_own h rfl
theorem newC_sl {lo:Nat} {w:World} {v:Value} {l:List (List UInt8)} (h:NewC lo w v l):∃B m d,m=l.length∧v=.slice B m d:=by
 obtain ⟨A,c,e,_⟩:=h
 exact ⟨A,_,c,rfl,e⟩
theorem fin8 {w:World} {r:Nat} {t:TypeId} {o0 o1 o2 o3 o4 o5 o6 o7:Value} (h:Blk w r t #[o0,o1,o2,o3,o4,o5,o6,o7]) (v0 v1 v2 v3 v4 v5 v6 v7:Value) :
  Blk (((((((((w.setCell ⟨r,0,none⟩ v0).setCell ⟨r,1,none⟩ v1).setCell ⟨r,2,none⟩ v2).setCell ⟨r,3,none⟩ v3).setCell ⟨r,4,none⟩ v4).setCell ⟨r,5,none⟩ v5).setCell ⟨r,6,none⟩ v6).setCell ⟨r,7,none⟩ v7)) r t #[v0,v1,v2,v3,v4,v5,v6,v7]:=by
 have h1:=((((((((h.set_ 0 v0).set_ 1 v1).set_ 2 v2).set_ 3 v3).set_ 4 v4).set_ 5 v5).set_ 6 v6).set_ 7 v7)
 simpa using h1
theorem bel8 {B:Nat} {w0 w:World} {r:Nat} (h:Below B w0 w) (hr:B≤r) (v0 v1 v2 v3 v4 v5 v6 v7:Value):Below B w0 (((((((((w.setCell ⟨r,0,none⟩ v0).setCell ⟨r,1,none⟩ v1).setCell ⟨r,2,none⟩ v2).setCell ⟨r,3,none⟩ v3).setCell ⟨r,4,none⟩ v4).setCell ⟨r,5,none⟩ v5).setCell ⟨r,6,none⟩ v6).setCell ⟨r,7,none⟩ v7)) :=
 ((((((((h.setCell (p:=⟨r,0,none⟩) hr v0).setCell (p:=⟨r,1,none⟩) hr v1).setCell (p:=⟨r,2,none⟩) hr v2).setCell (p:=⟨r,3,none⟩) hr v3).setCell (p:=⟨r,4,none⟩) hr v4).setCell (p:=⟨r,5,none⟩) hr v5).setCell (p:=⟨r,6,none⟩) hr v6).setCell (p:=⟨r,7,none⟩) hr v7)
theorem all8 {R:Value→List (List UInt8)→Prop} {v0 v1 v2 v3 v4 v5 v6 v7:Value} {ls:List (List (List UInt8))} (h:ls.length=8) (h0:R v0 (ls[0]'(by omega))) (h1:R v1 (ls[1]'(by omega))) (h2:R v2 (ls[2]'(by omega))) (h3:R v3 (ls[3]'(by omega))) (h4:R v4 (ls[4]'(by omega))) (h5:R v5 (ls[5]'(by omega))) (h6:R v6 (ls[6]'(by omega))) (h7:R v7 (ls[7]'(by omega))) :
  ∀(i:Nat) v l,([v0,v1,v2,v3,v4,v5,v6,v7]:List Value)[i]?=some v→ls[i]?=some l→R v l:=by
 match ls,h with
 | [l0,l1,l2,l3,l4,l5,l6,l7],_ =>
  intro i v l hv hl
  match i,hv,hl with
  | 0,hv,hl=>cases hv;cases hl;exact h0
  | 1,hv,hl=>cases hv;cases hl;exact h1
  | 2,hv,hl=>cases hv;cases hl;exact h2
  | 3,hv,hl=>cases hv;cases hl;exact h3
  | 4,hv,hl=>cases hv;cases hl;exact h4
  | 5,hv,hl=>cases hv;cases hl;exact h5
  | 6,hv,hl=>cases hv;cases hl;exact h6
  | 7,hv,hl=>cases hv;cases hl;exact h7
  | n+8,hv,_=>simp at hv
end Go.Proofs.YtnhekaepgpbijaaGreatDoor
