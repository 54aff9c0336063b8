/- Several of my texts in one: KxPG, Nam, CfA, PayM. -/
import Derived.Test.YtnhekaepgpbijaaGreatDoorHParseAG
import Derived.Test.YtnhekaepgpbijaaGreatDoorHMsgG
import Derived.Lib.Split
import Derived.Lib.IndexAny
import Derived.Lib.Join
import Derived.Test.YtnhekaepgpbijaaGreatDoorHShelf
import Derived.Lib.SplitLaws
import Derived.Test.YtnhekaepgpbijaaGreatDoorHMakeAG
set_option linter.unusedVariables false
set_option linter.unusedSimpArgs false
set_option maxHeartbeats 40000000
set_option maxRecDepth 100000
namespace Go.Proofs.YtnhekaepgpbijaaGreatDoor
open Go.RowKit Go.ChangeShapes Go.WideShapes Go.Sort
def IdxP (ls:List (List UInt8)) (s:List UInt8) (w:World) (e:Ending) (w':World):Prop:=∃k:Int,e=.returned (.int .i64 k)∧w'=w∧decide (0≤k)=decide (s∈ls)
theorem idxP_yes {ls:List (List UInt8)} {s:List UInt8} {w:World} {i:Nat} (hi:i<ls.length) (h:ls[i]=s):IdxP ls s w (.returned (.int .i64 i)) w :=
 ⟨i,rfl,rfl,by rw [decide_eq_true (show (0:Int)≤i by omega),decide_eq_true (by rw [←h];exact List.getElem_mem hi)]⟩
theorem idxP_no {ls:List (List UInt8)} {s:List UInt8} {w:World} (h:s ∉ ls):IdxP ls s w (.returned (.int .i64 (-1))) w :=
 ⟨-1,rfl,rfl,by rw [decide_eq_false (by decide),decide_eq_false h]⟩
theorem not_take {ls:List (List UInt8)} {s:List UInt8} {i:Nat} (hi:i<ls.length) (h:s ∉ ls.take i) (hn:ls[i]≠s):s ∉ ls.take (i+1):=by
 rw [List.take_succ_eq_append_getElem hi,List.mem_append,List.mem_singleton]
 exact fun h2=>h2.elim h (fun e=>hn e.symm)
section
variable {w : World} {A : Option Addr} {c : Nat} {ls : List (List UInt8)}
theorem sidx_any (h:Txs w (.slice A ls.length c) ls) (hll:ls.length≤9223372036854775807) (s:List UInt8):Calls Tryz.prog 265 #[.slice A ls.length c,.string (bs s)] w (IdxP ls s w):=by
 obtain ⟨A',c',hv,hA⟩:=h.open_
 obtain ⟨rfl,rfl⟩:A'=A∧c'=c:=by injection hv with e1 _ e2;exact ⟨e1.symm,e2.symm⟩
 clear hv h
 go_enter Tryz.func265,Tryz.ntmps265
 go_wp2_with fail
 go_loop [8] (fun i=>∃k:Nat,k≤ls.length∧i=.int .i64 k∧Hid (s ∉ ls.take k)) (fun i=>ls.length - (intOf i).toNat)
 case atStart=>exact ⟨0,Nat.zero_le _,rfl,hide (by simp)⟩
 case round =>
  obtain ⟨k,hk,rfl,H⟩:=hrel
  by_cases hlt:k<ls.length
  ·have hkI:(k:Int)<ls.length:=by omega
   obtain ⟨ad,rfl,had,hc⟩:=hA k hlt
   by_cases he:ls[k]=s
   ·have e1:((bs s).toList == (bs ls[k]).toList)=true:=by rw [he];exact beq_self_eq_true _
    have HY:=hide (idxP_yes (w:=w) hlt he)
    clear he H hA
    go_wp2_with fail
    go_ret
    exact HY.out
   ·have e1:((bs s).toList == (bs ls[k]).toList)=false:=bytes_ne (fun e=>he (bs_inj e).symm)
    have HN:=hide (not_take hlt H.out he)
    clear he H hA
    go_wp2_with fail
    go_round
    case rel=>exact ⟨k+1,hlt,by go_num,HN⟩
    case measure=>simp [intOf];omega
  ·have hkI:¬ (k:Int)<ls.length:=by omega
   have HN:=hide (idxP_no (w:=w) (ls:=ls) (s:=s) (by have:=H.out;rwa [List.take_of_length_le (by omega)] at this))
   clear H hA
   go_wp2_with fail
   go_ret
   exact HN.out
theorem scon_any (h:Txs w (.slice A ls.length c) ls) (hll:ls.length≤9223372036854775807) (s:List UInt8):Calls Tryz.prog 205 #[.slice A ls.length c,.string (bs s)] w (fun e w'=>e=.returned (.bool (decide (s∈ls)))∧w'=w):=by
 have H:=hide (sidx_any h hll s)
 clear h
 generalize hz:decide (s∈ls)=z
 have Hz:=hide hz
 clear hz
 go_enter Tryz.func205,Tryz.ntmps205
 go_wp2_with fail
 refine H.out.mono ?_
 rintro e w1 ⟨k,rfl,rfl,hk⟩
 have HZ:=hide (hk.trans Hz.out)
 clear hk H
 go_wp2_with fail
 go_ret
 exact ⟨by rw [←HZ.out];rfl,rfl⟩
theorem nhas_any (h:Txs w (.slice A ls.length c) ls) (hll:ls.length≤9223372036854775807) (s:List UInt8):Calls Tryz.prog 129 #[.slice A ls.length c,.string (bs s)] w (fun e w'=>e=.returned (.bool (decide (s∈ls)))∧w'=w):=by
 have H:=hide (scon_any h hll s)
 clear h
 go_enter Tryz.func129,Tryz.ntmps129
 go_wp2_with fail
 refine H.out.mono ?_
 rintro e w1 ⟨rfl,rfl⟩
 go_wp2_with fail
 go_ret
 exact ⟨rfl,rfl⟩
theorem rhas_any (h:Txs w (.slice A ls.length c) ls) (hll:ls.length≤9223372036854775807) (s:List UInt8):Calls Tryz.prog 78 #[.slice A ls.length c,.string (bs s)] w (fun e w'=>e=.returned (.bool (decide (s∈ls)))∧w'=w):=by
 obtain ⟨A',c',hv,hA⟩:=h.open_
 obtain ⟨rfl,rfl⟩:A'=A∧c'=c:=by injection hv with e1 _ e2;exact ⟨e1.symm,e2.symm⟩
 clear hv h
 generalize hz:decide (s∈ls)=z
 have Hz:=hide hz
 clear hz
 go_enter Tryz.func78,Tryz.ntmps78
 go_wp2_with fail
 go_loop [5] (fun i=>∃k:Nat,k≤ls.length∧i=.int .i64 k∧Hid (s ∉ ls.take k)) (fun i=>ls.length - (intOf i).toNat)
 case atStart=>exact ⟨0,Nat.zero_le _,rfl,hide (by simp)⟩
 case round =>
  obtain ⟨k,hk,rfl,H⟩:=hrel
  by_cases hlt:k<ls.length
  ·have hkI:(k:Int)<ls.length:=by omega
   obtain ⟨ad,rfl,had,hc⟩:=hA k hlt
   by_cases he:ls[k]=s
   ·have e1:((bs ls[k]).toList == (bs s).toList)=true:=by rw [he];exact beq_self_eq_true _
    have HY:=hide (show z=true from by rw [←Hz.out];exact decide_eq_true (by rw [←he];exact List.getElem_mem hlt))
    clear he H hA
    go_wp2_with fail
    go_ret
    exact ⟨by rw [HY.out];rfl,rfl⟩
   ·have e1:((bs ls[k]).toList == (bs s).toList)=false:=bytes_ne (fun e=>he (bs_inj e))
    have HN:=hide (not_take hlt H.out he)
    clear he H hA
    go_wp2_with fail
    go_round
    case rel=>exact ⟨k+1,hlt,by go_num,HN⟩
    case measure=>simp [intOf];omega
  ·have hkI:¬ (k:Int)<ls.length:=by omega
   have HN:=hide (show z=false from by rw [←Hz.out];exact decide_eq_false (by have:=H.out;rwa [List.take_of_length_le (by omega)] at this))
   clear H hA
   go_wp2_with fail
   go_ret
   exact ⟨by rw [HN.out];rfl,rfl⟩
end
def mark0:List UInt8:=[101,120,116,45,105,110,102,111,45,99]
def mark1:List UInt8:=[101,120,116,45,105,110,102,111,45,115]
def mark2:List UInt8:=[107,101,120,45,115,116,114,105,99,116,45,99,45,118,48,48]
def mark3:List UInt8:=[107,101,120,45,115,116,114,105,99,116,45,115,45,118,48,48]
end Go.Proofs.YtnhekaepgpbijaaGreatDoor

namespace Go.Proofs.YtnhekaepgpbijaaGreatDoor
def oneM (b:Bool) (m:List UInt8):List (List UInt8):=if b=true then [m] else []
structure SplM where
 rest:List (List UInt8)
 a:Bool
 b:Bool
 c:Bool
 d:Bool
theorem index_comma_no {l:List UInt8} (h:(44:UInt8) ∉ l):Lib.index l [44]=-1:=by
 induction l with
 | nil=>rfl
 | cons c r ih =>
  simp only [List.mem_cons,not_or] at h
  simp only [Lib.index]
  rw [if_neg (by simp [h.1]),ih h.2]
  rfl
theorem index_comma_yes {x:List UInt8} (r:List UInt8) (h:(44:UInt8) ∉ x):Lib.index (x++44 :: r) [44]=x.length:=by
 induction x with
 | nil=>simp [Lib.index]
 | cons c x ih =>
  simp only [List.mem_cons,not_or] at h
  simp only [List.cons_append,Lib.index]
  rw [if_neg (by simp [h.1]),ih h.2]
  have:(((x.length:Nat):Int) == -1)=false:=by rw [beq_eq_false_iff_ne];omega
  rw [this]
  simp
theorem comma_cases (l:List UInt8):(44:UInt8) ∉ l∨∃x r,l=x++44 :: r∧(44:UInt8) ∉ x:=by
 by_cases h:(44:UInt8)∈l
 ·obtain ⟨x,r,h1,h2⟩:=List.eq_append_cons_of_mem h
  exact .inr ⟨x,r,h1,h2⟩
 ·exact .inl h
theorem splitK_comma:∀(n:Nat) (l:List UInt8),l.length≤n→Lib.splitK [44] 0 (Lib.count l [44]) l=splitC l:=by
 intro n
 induction n with
 | zero =>
  intro l hl
  have:l=[]:=List.eq_nil_of_length_eq_zero (by omega)
  subst this
  rfl
 | succ n ih =>
  intro l hl
  rcases comma_cases l with h | ⟨x,r,rfl,h⟩
  ·rw [Lib.count_miss (index_comma_no h),splitC_none h]
   rfl
  ·have hi:=index_comma_yes r h
   have hd:(x++44 :: r).drop (x.length+1)=r:=by
    rw [←List.drop_drop,List.drop_left]
    rfl
   have hc:Lib.count (x++44 :: r) [44]=1+Lib.count r [44]:=by
    rw [Lib.count_hit (by simp) hi]
    rw [show ([44]:List UInt8).length=1 from rfl,hd]
   rw [hc,Nat.add_comm,Lib.splitK,hi]
   have:(((x.length:Nat):Int) == -1)=false:=by rw [beq_eq_false_iff_ne];omega
   rw [this]
   simp only [Bool.false_eq_true,if_false,Int.toNat_natCast,Nat.add_zero]
   rw [show ([44]:List UInt8).length=1 from rfl,hd,List.take_left,splitC_app h,ih r (by simp at hl;omega)]
theorem splitB_comma (s:ByteArray):(Lib.splitB ⟨#[44]⟩ 0 (Lib.countB s ⟨#[44]⟩) s).map (·.data.toList)=splitC s.data.toList:=by
 rw [Lib.splitB_data]
 exact splitK_comma _ _ (Nat.le_refl _)
theorem join_comma (l:List (List UInt8)):Lib.join l [44]=joinC l:=by
 induction l with
 | nil=>rfl
 | cons x l ih =>
  cases l with
  | nil=>simp [Lib.join_one,joinC]
  | cons y r =>
   rw [Lib.join_cons] at ih ⊢
   rw [joinC_cons _ (by simp),← ih]
   simp [Lib.joinTail]
theorem contains_comma (l:List UInt8):decide (0≤Lib.indexByte l 44)=l.contains 44:=(Lib.contains_iff_indexByte l 44).symm
theorem rightL_eq {s:List UInt8} (h:∀c∈s,33≤c.toNat∧c.toNat≤126):rightL s=(decide (1≤s.length) && decide (s.length≤64) && !(s.contains 44)):=by
 have h2:(s.all fun c=>decide (33≤c.toNat) && decide (c.toNat≤126) && !(c == 44))=!(s.contains 44):=by
  induction s with
  | nil=>rfl
  | cons c r ih =>
   have hc:=h c (by simp)
   rw [List.all_cons,ih (fun d hd=>h d (by simp [hd])),List.contains_cons]
   simp only [hc.1,hc.2,decide_true,Bool.true_and,Bool.not_or]
   rw [show (c == (44:UInt8))=((44:UInt8) == c) from by rw [Bool.eq_iff_iff,beq_iff_eq,beq_iff_eq];exact eq_comm]
 unfold rightL
 rw [h2]
 cases s.contains 44 <;> simp
theorem rightL_no {s:List UInt8} {c:UInt8} (hc:c∈s) (h:c.toNat<33∨126<c.toNat∨c=44):rightL s=false:=by
 cases hr:rightL s with
 | false=>rfl
 | true =>
  exfalso
  unfold rightL at hr
  simp only [Bool.and_eq_true,List.all_eq_true,decide_eq_true_eq,Bool.not_eq_true',beq_eq_false_iff_ne] at hr
  have:=hr.1.1 c hc
  rcases h with h | h | h
  ·omega
  ·omega
  ·exact this.2 h
theorem rightL_yes {s:List UInt8} (h:∀c∈s,33≤c.toNat∧c.toNat≤126∧c≠44):rightL s=(decide (1≤s.length) && decide (s.length≤64)):=by
 rw [rightL_eq (fun c hc=>⟨(h c hc).1,(h c hc).2.1⟩)]
 have:s.contains 44=false:=by
  rw [List.contains_eq_mem]
  simp only [decide_eq_false_iff_not]
  intro hm
  exact (h 44 hm).2.2 rfl
 rw [this]
 simp
theorem wrongN_no {l:List (List UInt8)} (h16:l.length≤16) {x:List UInt8} (hx:x∈l) (hr:rightL x=false):wrongN l=3:=by
 unfold wrongN
 rw [if_neg (by omega),if_neg]
 intro h
 rw [List.all_eq_true] at h
 rw [h x hx] at hr
 cases hr
theorem wrongN_yes {l:List (List UInt8)} (h16:l.length≤16) (h:∀x∈l,rightL x=true):wrongN l=0:=by
 unfold wrongN
 rw [if_neg (by omega),if_pos (by rw [List.all_eq_true];exact h)]
theorem wrongN_long {l:List (List UInt8)} (h16:16<l.length):wrongN l=2:=by
 unfold wrongN
 rw [if_pos h16]
end Go.Proofs.YtnhekaepgpbijaaGreatDoor
namespace Go.Proofs.YtnhekaepgpbijaaGreatDoor
open Go.RowKit Go.ChangeShapes Go.WideShapes Go.Sort
def MaxL (w:World):Prop:=∃m,w.cell? ⟨4,0,none⟩=some (.int .i64 m)
theorem MaxL.below {w w':World} (h:MaxL w) (hb:Below w.heap.size w w'):MaxL w':=by
 obtain ⟨m,hm⟩:=h
 exact ⟨m,(hb.cell (p:=⟨4,0,none⟩) (World.block_lt_of_cell? w _ hm)).trans hm⟩
theorem bel_newN {w:World} (o:Obj):Below w.heap.size w (w.alloc o):=(Below.refl _ _).alloc (Nat.le_refl _) o
def NewT (w w':World) (v:Value) (ls:List (List UInt8)):Prop:=Strs w.heap.size w' v (ls.map bs)
theorem NewT.txs {w w':World} {v:Value} {ls:List (List UInt8)} (h:NewT w w' v ls):Txs w' v ls:=Strs.mono h (Nat.zero_le _)
def NewC (lo:Nat) (w':World) (v:Value) (ls:List (List UInt8)):Prop:=∃A c,v=.slice A ls.length c∧ls.length≤c∧Sl lo w' 1 A ls.length ((ls.map bs).map Value.string)
theorem newC_nil (lo:Nat) (w':World) (c:Nat):NewC lo w' (.slice none 0 c) []:=⟨none,c,rfl,Nat.zero_le _,Sl.nil_⟩
theorem newC_of {lo:Nat} {w':World} {A:Option Addr} {n c:Nat} {ls:List (List UInt8)} (h:Strs lo w' (.slice A n c) (ls.map bs)) (hc:ls.length≤c):NewC lo w' (.slice A n c) ls:=by
 obtain ⟨A',c',e,hS⟩:=h
 injection e with e1 e2 e3
 subst e1 e2 e3
 rw [List.length_map] at hS ⊢
 exact ⟨A,c,rfl,hc,hS⟩
theorem NewC.mono {lo lo2:Nat} {w':World} {v:Value} {ls:List (List UInt8)} (h:NewC lo w' v ls) (hl:lo2≤lo):NewC lo2 w' v ls:=by
 obtain ⟨A,c,e,hc,hS⟩:=h
 exact ⟨A,c,e,hc,hS.mono hl⟩
theorem NewC.set_ {lo:Nat} {w':World} {v:Value} {ls:List (List UInt8)} (h:NewC lo w' v ls) {p:Addr} (hp:p.block<lo) (u:Value):NewC lo (w'.setCell p u) v ls:=by
 obtain ⟨A,c,e,hc,hS⟩:=h
 exact ⟨A,c,e,hc,hS.setCell hp u⟩
theorem mem_toList {s:ByteArray} {k:Nat} (h:k<s.size):s[k]∈s.data.toList:=by
 have h2:k<s.data.toList.length:=h
 exact List.mem_iff_getElem.2 ⟨k,h2,rfl⟩
theorem all_take {s:ByteArray} {k:Nat} {P:UInt8→Prop} (h:k<s.size) (ha:∀c∈s.data.toList.take k,P c) (hk:P s[k]):∀c∈s.data.toList.take (k+1),P c:=by
 intro c hc
 have h2:k<s.data.toList.length:=h
 rw [List.take_succ_eq_append_getElem h2] at hc
 rcases List.mem_append.1 hc with hc | hc
 ·exact ha c hc
 ·simp only [List.mem_singleton] at hc
  subst hc
  exact hk
theorem all_full {s:ByteArray} {k:Nat} {P:UInt8→Prop} (h:¬ k<s.size) (ha:∀c∈s.data.toList.take k,P c):∀c∈s.data.toList,P c:=by
 intro c hc
 refine ha c ?_
 rw [List.take_of_length_le (by show s.size≤k;omega)]
 exact hc
section
variable {w : World}
theorem nright_any (s:ByteArray) (hs:s.size≤9223372036854775807) (w:World):Calls Tryz.prog 279 #[.string s] w (fun e w'=>e=.returned (.bool (rightL s.data.toList))∧w'=w):=by
 have HC:=hide (fun W=>Tryz.strings_Contains_one s 44 W)
 rw [contains_comma] at HC
 generalize hb:s.data.toList.contains 44=b at HC
 have Hb:=hide hb
 clear hb
 go_enter Tryz.func279,Tryz.ntmps279
 go_wp2_with fail
 go_loop [6] (fun i=>∃k:Nat,k≤s.size∧i=.int .i64 k∧Hid (∀c∈s.data.toList.take k,33≤c.toNat∧c.toNat≤126)) (fun i=>s.size - (intOf i).toNat)
 case atStart=>exact ⟨0,Nat.zero_le _,rfl,hide (by simp)⟩
 case round =>
  obtain ⟨k,hk,rfl,H⟩:=hrel
  by_cases hlt:k<s.size
  ·by_cases h1:s[k].toNat<33
   ·have h1':(s[k].toNat:Int)<33:=by omega
    have E:=hide (rightL_no (mem_toList hlt) (.inl h1))
    go_wp2_with fail
    go_ret
    exact ⟨by rw [E.out];rfl,rfl⟩
   ·have h1':¬ (s[k].toNat:Int)<33:=by omega
    by_cases h2:126<s[k].toNat
    ·have h2':(126:Int)<s[k].toNat:=by omega
     have E:=hide (rightL_no (mem_toList hlt) (.inr (.inl h2)))
     go_wp2_with fail
     go_ret
     exact ⟨by rw [E.out];rfl,rfl⟩
    ·have h2':¬ (126:Int)<s[k].toNat:=by omega
     have H2:=hide (all_take hlt H.out ⟨Nat.le_of_not_lt h1,Nat.le_of_not_lt h2⟩)
     clear H
     go_wp2_with fail
     go_round
     case rel=>exact ⟨k+1,hlt,by go_num,H2⟩
     case measure=>simp [intOf];omega
  ·have E:=hide (rightL_eq (all_full hlt H.out))
   rw [Hb.out] at E
   clear H Hb
   by_cases h0:s=⟨#[]⟩
   ·subst h0
    go_wp2_with fail
    go_ret
    exact ⟨rfl,rfl⟩
   ·have hne:=bytes_some h0
    have hne2:=bytes_ne h0
    have hne3:(s.toList != [])=true:=by
     rw [bne,Bool.not_eq_true']
     simpa [ByteArray.toList_eq] using hne2
    have hl1:1≤s.data.toList.length:=by
     rcases Nat.eq_zero_or_pos s.data.toList.length with h9 | h9
     ·exact absurd (toList_inj (List.eq_nil_of_length_eq_zero h9)) h0
     ·exact h9
    have hl2:s.data.toList.length=s.size:=rfl
    by_cases h64:s.size≤64
    ·have h64':(s.size:Int)≤64:=by omega
     go_wp2_with (go_at_call 302;refine (HC.out _).mono ?_;rintro e w1 ⟨rfl,rfl⟩)
     go_ret
     refine ⟨?_,rfl⟩
     rw [E.out,decide_eq_true hl1,hl2,decide_eq_true h64]
     rfl
    ·have h64':¬ (s.size:Int)≤64:=by omega
     go_wp2_with fail
     go_ret
     refine ⟨?_,rfl⟩
     rw [E.out,decide_eq_true hl1,hl2,decide_eq_false h64]
     rfl
theorem ncheck_any {A:Option Addr} {c:Nat} {ls:List (List UInt8)} (h:Txs w (.slice A ls.length c) ls) (hl:∀y∈ls,y.length≤9223372036854775807) :
  Calls Tryz.prog 240 #[.slice A ls.length c] w (fun e w'=>e=.returned (.int .i64 (wrongN ls))∧w'=w):=by
 obtain ⟨A',c',hv,hA⟩:=h.open_
 obtain ⟨rfl,rfl⟩:A'=A∧c'=c:=by injection hv with e1 _ e2;exact ⟨e1.symm,e2.symm⟩
 clear hv h
 go_enter Tryz.func240,Tryz.ntmps240
 by_cases h16:16<ls.length
 ·have h16':(16:Int)<ls.length:=by omega
  have E:=hide (wrongN_long h16)
  go_wp2_with fail
  go_ret
  exact ⟨by rw [E.out];rfl,rfl⟩
 ·have h16':¬ (16:Int)<ls.length:=by omega
  have Hl:=hide hl
  clear hl
  go_wp2_with fail
  go_loop [10] (fun i=>∃k:Nat,k≤ls.length∧i=.int .i64 k∧Hid (∀x∈ls.take k,rightL x=true)) (fun i=>ls.length - (intOf i).toNat)
  case atStart=>exact ⟨0,Nat.zero_le _,rfl,hide (by simp)⟩
  case round =>
   obtain ⟨k,hk,rfl,H⟩:=hrel
   by_cases hlt:k<ls.length
   ·obtain ⟨ad,rfl,had,hc⟩:=hA k hlt
    have HR:=hide (nright_any (bs ls[k]) (Hl.out _ (List.getElem_mem hlt)) w)
    rw [bs_data] at HR
    have hmem:=List.getElem_mem hlt
    cases hr:rightL ls[k] with
    | false =>
     rw [hr] at HR
     have E:=hide (wrongN_no (l:=ls) (by omega) hmem hr)
     clear hmem hr
     go_wp2_with (go_at_call 279;refine HR.out.mono ?_;rintro e w1 ⟨rfl,rfl⟩)
     go_ret
     exact ⟨by rw [E.out];rfl,rfl⟩
    | true =>
     rw [hr] at HR
     have H2:=hide (show ∀x∈ls.take (k+1),rightL x=true from by
      intro x hx
      rw [List.take_succ_eq_append_getElem hlt] at hx
      rcases List.mem_append.1 hx with hx | hx
      ·exact H.out x hx
      ·simp only [List.mem_singleton] at hx
       subst hx
       exact hr)
     clear hmem hr H
     go_wp2_with (go_at_call 279;refine HR.out.mono ?_;rintro e w1 ⟨rfl,rfl⟩)
     go_round
     case rel=>exact ⟨k+1,hlt,by go_num,H2⟩
     case measure=>simp [intOf];omega
   ·have E:=hide (wrongN_yes (l:=ls) (by omega) (fun x hx=>H.out x (by rw [List.take_of_length_le (by omega)];exact hx)))
    clear H hA
    go_wp2_with fail
    go_ret
    exact ⟨by rw [E.out];rfl,rfl⟩
theorem splitB_txs (s:ByteArray) (w:World):((Lib.splitB ⟨#[44]⟩ 0 (Lib.countB s ⟨#[44]⟩) s).map Value.string)=((splitC s.data.toList).map bs).map Value.string:=by
 rw [←splitB_comma,List.map_map,List.map_map]
 congr 1
theorem splitB_len (s:ByteArray):Lib.countB s ⟨#[44]⟩+1=(splitC s.data.toList).length:=by
 rw [←splitB_comma,List.length_map,Lib.splitB_all ⟨#[44]⟩ (by decide) 0 _ s rfl]
theorem splitC_lens (s:List UInt8):∀x∈splitC s,x.length≤s.length:=by
 induction s with
 | nil=>simp [splitC]
 | cons c r ih =>
  intro x hx
  unfold splitC at hx
  split at hx
  ·rcases List.mem_cons.1 hx with rfl | hx
   ·simp
   ·have:=ih x hx
    simp
    omega
  ·rcases List.mem_cons.1 hx with rfl | hx
   ·have hne:=splitC_ne r
    cases hs:splitC r with
    | nil=>exact absurd hs hne
    | cons y ys =>
     have:=ih y (by rw [hs];simp)
     simp
     omega
   ·have:=ih x (List.mem_of_mem_tail hx)
    simp
    omega
theorem nsplit_any (s:ByteArray) (hM:MaxL w) (hs:s.size<4294967281) :
  Calls Tryz.prog 159 #[.string s] w (fun e w'=>∃v,e=.returned (.tuple #[v,.int .i64 (splitN s.data.toList).1])∧NewC w.heap.size w' v (splitN s.data.toList).2∧Below w.heap.size w w'):=by
 obtain ⟨m,hm⟩:=hM
 by_cases h0:s=⟨#[]⟩
 ·subst h0
  go_enter Tryz.func159,Tryz.ntmps159
  go_wp2_with fail
  go_ret2
  exact ⟨_,rfl,newC_nil _ _ _,by exact bel_by⟩
 ·have hne:=bytes_ne h0
  have hne2:=bytes_some h0
  have hnl:s.data.toList≠[]:=fun e=>h0 (toList_inj e)
  have HS:=hide (Tryz.strings_Split s ⟨#[44]⟩ m w hs hm (by decide))
  rw [splitB_txs s w,splitB_len s] at HS
  have hT:Strs w.heap.size (w.alloc (.cells (((splitC s.data.toList).map bs).map Value.string).toArray 9)) (.slice (some ⟨w.heap.size,0,none⟩) (splitC s.data.toList).length (splitC s.data.toList).length) ((splitC s.data.toList).map bs):=by
   have h9:=strs_new w 9 ((splitC s.data.toList).map bs) _ rfl
   rw [List.length_map] at h9
   exact h9
  have hbl:=bel_newN (w:=w) (.cells (((splitC s.data.toList).map bs).map Value.string).toArray 9)
  have hls:=splitC_lens s.data.toList
  have hsp:splitN s.data.toList=if wrongN (splitC s.data.toList)=0 then (0,splitC s.data.toList) else (wrongN (splitC s.data.toList),[]):=by
   unfold splitN
   rw [if_neg hnl]
  have hsz:s.data.toList.length=s.size:=rfl
  have Hsp:=hide hsp
  generalize splitC s.data.toList=ls at HS hT hbl hls Hsp
  generalize w.alloc (.cells ((ls.map bs).map Value.string).toArray 9)=w1 at HS hT hbl
  have HK:=hide (ncheck_any (w:=w1) (c:=ls.length) (Strs.mono hT (Nat.zero_le _)) (fun y hy=>by have:=hls y hy;omega))
  have HT:=hide hT
  clear hT hls hsp hnl hsz
  go_enter Tryz.func159,Tryz.ntmps159
  go_wp2_with (go_at_call 239;refine HS.out.mono ?_;rintro e w2 ⟨rfl,rfl⟩)
  refine HK.out.mono ?_
  rintro e w3 ⟨rfl,rfl⟩
  rcases wrong_cases ls with h9 | h9 | h9
  ·rw [h9] at Hsp ⊢
   go_wp2_with fail
   go_ret2
   rw [Hsp.out]
   exact ⟨_,rfl,newC_of HT.out (Nat.le_refl _),hbl⟩
  ·rw [h9] at Hsp ⊢
   go_wp2_with fail
   go_ret2
   rw [Hsp.out]
   exact ⟨_,rfl,newC_nil _ _ _,hbl⟩
  ·rw [h9] at Hsp ⊢
   go_wp2_with fail
   go_ret2
   rw [Hsp.out]
   exact ⟨_,rfl,newC_nil _ _ _,hbl⟩
def joinN (ls:List (List UInt8)):List UInt8:=if wrongN ls=0 then joinC ls else []
theorem njoin_any {A:Option Addr} {c:Nat} {ls:List (List UInt8)} (h:Txs w (.slice A ls.length c) ls) (hc:ls.length≤c) (hl:∀y∈ls,y.length≤9223372036854775807) :
  Calls Tryz.prog 202 #[.slice A ls.length c] w (fun e w'=>e=.returned (.tuple #[.string (bs (joinN ls)),.int .i64 (wrongN ls)])∧Below w.heap.size w w'):=by
 have HK:=hide (ncheck_any h hl)
 rcases wrong_cases ls with h9 | h9 | h9
 ·have hj:joinN ls=joinC ls:=by unfold joinN;rw [if_pos h9]
  obtain ⟨w1,w2⟩:=wrong_ok h9
  have hjl:=joinC_len (l:=ls) (fun y hy=>(right_len (w2 y hy)).2)
  have hj2:Lib.join ((ls.map bs).map (·.data.toList)) (⟨#[44]⟩:ByteArray).data.toList=joinC ls:=by
   rw [List.map_map,← join_comma]
   congr 1
   conv=>rhs;rw [←List.map_id ls]
   rfl
  have HJ:Hid (Calls Tryz.prog 264 #[.slice A ls.length c,.string ⟨#[44]⟩] w (fun e w'=>e=.returned (.string (bs (joinC ls)))∧Below w.heap.size w w')):=by
   by_cases hn:ls=[]
   ·subst hn
    refine hide ((Tryz.strings_Join_none A c ⟨#[44]⟩ w).mono ?_)
    rintro e w' ⟨rfl,rfl⟩
    exact ⟨rfl,Below.refl _ _⟩
   ·obtain ⟨A',c',hv,hA⟩:=h.open_
    obtain ⟨rfl,rfl⟩:A'=A∧c'=c:=by injection hv with e1 _ e2;exact ⟨e1.symm,e2.symm⟩
    have hpos:0<ls.length:=List.length_pos_iff.2 hn
    obtain ⟨ad,rfl,had,hc0⟩:=hA 0 hpos
    have hsp:=World.cell?_spot hc0
    obtain ⟨bk,o,sp⟩:=ad
    have hsp2:sp=none:=by simpa [Addr.add] using hsp
    subst hsp2
    have:=Tryz.strings_Join bk o c' (ls.map bs) ⟨#[44]⟩ w (fun j x hx=>by
     rw [List.getElem?_map,Option.map_eq_some_iff] at hx
     obtain ⟨y,hy,rfl⟩:=hx
     obtain ⟨hj9,rfl⟩:=List.getElem?_eq_some_iff.1 hy
     obtain ⟨ad2,e2,_,hc2⟩:=hA j hj9
     injection e2 with e2
     rw [←e2] at hc2
     rw [←hc2]
     congr 1
     unfold Addr.add
     split
     ·rename_i hz;subst hz;rfl
     ·rfl) had (by rw [List.length_map];omega) (by rw [List.length_map];exact hc) (by rw [hj2];omega)
    rw [hj2,List.length_map] at this
    exact hide this
  rw [h9] at HK ⊢
  rw [hj]
  clear h hj2 w2 hl
  go_enter Tryz.func202,Tryz.ntmps202
  go_wp2_with (go_at_call 240;refine HK.out.mono ?_;rintro e w1 ⟨rfl,rfl⟩)
  refine HJ.out.mono ?_
  rintro e w2 ⟨rfl,hb2⟩
  go_wp2_with fail
  go_ret2
  exact ⟨rfl,hb2⟩
 ·have hj:joinN ls=[]:=by unfold joinN;rw [if_neg (by omega)]
  rw [h9] at HK ⊢
  rw [hj]
  clear h hl
  go_enter Tryz.func202,Tryz.ntmps202
  go_wp2_with (go_at_call 240;refine HK.out.mono ?_;rintro e w1 ⟨rfl,rfl⟩)
  go_ret2
  exact ⟨rfl,Below.refl _ _⟩
 ·have hj:joinN ls=[]:=by unfold joinN;rw [if_neg (by omega)]
  rw [h9] at HK ⊢
  rw [hj]
  clear h hl
  go_enter Tryz.func202,Tryz.ntmps202
  go_wp2_with (go_at_call 240;refine HK.out.mono ?_;rintro e w1 ⟨rfl,rfl⟩)
  go_ret2
  exact ⟨rfl,Below.refl _ _⟩
end
def betw (a b:Nat) (l:List UInt8):Bool:=l.all fun c=>decide (a≤c.toNat) && decide (c.toNat≤b)
theorem betw_yes {a b:Nat} {l:List UInt8} (h:∀c∈l,a≤c.toNat∧c.toNat≤b):betw a b l=true:=by
 unfold betw
 rw [List.all_eq_true]
 intro c hc
 have:=h c hc
 simp [this.1,this.2]
theorem betw_no {a b:Nat} {l:List UInt8} {c:UInt8} (hc:c∈l) (h:c.toNat<a∨b<c.toNat):betw a b l=false:=by
 cases hb:betw a b l with
 | false=>rfl
 | true =>
  exfalso
  unfold betw at hb
  rw [List.all_eq_true] at hb
  have:=hb c hc
  simp only [Bool.and_eq_true,decide_eq_true_eq] at this
  omega
theorem contains_byte (l:List UInt8) (b:UInt8):decide (0≤Lib.indexByte l b)=l.contains b:=(Lib.contains_iff_indexByte l b).symm
def userL (l:List UInt8):Bool:=betw 33 126 l && decide (1≤l.length) && decide (l.length≤64)
def lineL (l:List UInt8):Bool:=betw 32 126 l && decide (l.length≤253)
def blankL (l:List UInt8):Bool:=l.contains 32
def sshB:List UInt8:=[83,83,72,45,50,46,48,45]
def cmtL (cm:List UInt8):List UInt8:=if cm=[] then [] else 32 :: cm
def verL (sw cm:List UInt8):List UInt8:=if sw=[]∨blankL sw=true then [] else if lineL (sshB++sw++cmtL cm)=true then sshB++sw++cmtL cm else []
def groupL (a b c:Int):Bool:=decide (1024≤a) && decide (a≤b) && decide (b≤c) && decide (c≤8192)
def princL (n:Int):Bool:=decide (0≤n) && decide (n≤15)
section
variable {w : World}
theorem user_any (s:ByteArray) (hs:s.size≤9223372036854775807) (w:World):Calls Tryz.prog 220 #[.string s] w (fun e w'=>e=.returned (.bool (userL s.data.toList))∧w'=w):=by
 have hl2:s.data.toList.length=s.size:=rfl
 go_enter Tryz.func220,Tryz.ntmps220
 go_wp2_with fail
 go_loop [6] (fun i=>∃k:Nat,k≤s.size∧i=.int .i64 k∧Hid (∀c∈s.data.toList.take k,33≤c.toNat∧c.toNat≤126)) (fun i=>s.size - (intOf i).toNat)
 case atStart=>exact ⟨0,Nat.zero_le _,rfl,hide (by simp)⟩
 case round =>
  obtain ⟨k,hk,rfl,H⟩:=hrel
  by_cases hlt:k<s.size
  ·by_cases h1:s[k].toNat<33
   ·have h1':(s[k].toNat:Int)≤32:=by omega
    have E:=hide (show userL s.data.toList=false from by unfold userL;rw [betw_no (mem_toList hlt) (.inl h1)];rfl)
    go_wp2_with fail
    go_ret
    exact ⟨by rw [E.out];rfl,rfl⟩
   ·have h1':¬ (s[k].toNat:Int)≤32:=by omega
    by_cases h2:126<s[k].toNat
    ·have h2':(126:Int)<s[k].toNat:=by omega
     have E:=hide (show userL s.data.toList=false from by unfold userL;rw [betw_no (mem_toList hlt) (.inr h2)];rfl)
     go_wp2_with fail
     go_ret
     exact ⟨by rw [E.out];rfl,rfl⟩
    ·have h2':¬ (126:Int)<s[k].toNat:=by omega
     have H2:=hide (all_take hlt H.out ⟨Nat.le_of_not_lt h1,Nat.le_of_not_lt h2⟩)
     clear H
     go_wp2_with fail
     go_round
     case rel=>exact ⟨k+1,hlt,by go_num,H2⟩
     case measure=>simp [intOf];omega
  ·have E:=hide (betw_yes (all_full hlt H.out))
   clear H
   by_cases h0:1≤s.size
   ·have h0':(1:Int)≤s.size:=by omega
    by_cases h64:s.size≤64
    ·have h64':(s.size:Int)≤64:=by omega
     go_wp2_with fail
     go_ret
     refine ⟨?_,rfl⟩
     unfold userL
     rw [E.out,hl2,decide_eq_true h0,decide_eq_true h64]
     rfl
    ·have h64':¬ (s.size:Int)≤64:=by omega
     go_wp2_with fail
     go_ret
     refine ⟨?_,rfl⟩
     unfold userL
     rw [E.out,hl2,decide_eq_false h64,Bool.and_false]
     rfl
   ·have h0':¬ (1:Int)≤s.size:=by omega
    go_wp2_with fail
    go_ret
    refine ⟨?_,rfl⟩
    unfold userL
    rw [hl2,decide_eq_false h0,Bool.and_false,Bool.false_and]
    rfl
theorem ruser_any (s:ByteArray) (hs:s.size≤9223372036854775807) (w:World):Calls Tryz.prog 229 #[.string s] w (fun e w'=>e=.returned (.bool (userL s.data.toList))∧w'=w):=by
 have hl2:s.data.toList.length=s.size:=rfl
 go_enter Tryz.func229,Tryz.ntmps229
 go_wp2_with fail
 go_loop [3] (fun i=>∃k:Nat,k≤s.size∧i=.int .i64 k∧Hid (∀c∈s.data.toList.take k,33≤c.toNat∧c.toNat≤126)) (fun i=>s.size - (intOf i).toNat)
 case atStart=>exact ⟨0,Nat.zero_le _,rfl,hide (by simp)⟩
 case round =>
  obtain ⟨k,hk,rfl,H⟩:=hrel
  by_cases hlt:k<s.size
  ·have hlt':(k:Int)<s.size:=by omega
   by_cases h1:s[k].toNat<33
   ·have h1':(s[k].toNat:Int)<33:=by omega
    have E:=hide (show userL s.data.toList=false from by unfold userL;rw [betw_no (mem_toList hlt) (.inl h1)];rfl)
    go_wp2_with fail
    go_ret
    exact ⟨by rw [E.out];rfl,rfl⟩
   ·have h1':¬ (s[k].toNat:Int)<33:=by omega
    by_cases h2:126<s[k].toNat
    ·have h2':(126:Int)<s[k].toNat:=by omega
     have E:=hide (show userL s.data.toList=false from by unfold userL;rw [betw_no (mem_toList hlt) (.inr h2)];rfl)
     go_wp2_with fail
     go_ret
     exact ⟨by rw [E.out];rfl,rfl⟩
    ·have h2':¬ (126:Int)<s[k].toNat:=by omega
     have H2:=hide (all_take hlt H.out ⟨Nat.le_of_not_lt h1,Nat.le_of_not_lt h2⟩)
     clear H
     go_wp2_with fail
     go_round
     case rel=>exact ⟨k+1,hlt,by go_num,H2⟩
     case measure=>simp [intOf];omega
  ·have hlt':¬ (k:Int)<s.size:=by omega
   have E:=hide (betw_yes (all_full hlt H.out))
   clear H
   by_cases h0:1≤s.size
   ·have h0':(0:Int)<s.size:=by omega
    by_cases h64:s.size≤64
    ·have h64':(s.size:Int)≤64:=by omega
     go_wp2_with fail
     go_ret
     refine ⟨?_,rfl⟩
     unfold userL
     rw [E.out,hl2,decide_eq_true h0,decide_eq_true h64]
     rfl
    ·have h64':¬ (s.size:Int)≤64:=by omega
     go_wp2_with fail
     go_ret
     refine ⟨?_,rfl⟩
     unfold userL
     rw [E.out,hl2,decide_eq_false h64,Bool.and_false]
     rfl
   ·have h0':¬ (0:Int)<s.size:=by omega
    go_wp2_with fail
    go_ret
    refine ⟨?_,rfl⟩
    unfold userL
    rw [hl2,decide_eq_false h0,Bool.and_false,Bool.false_and]
    rfl
theorem princ_any (n:Int) (w:World):Calls Tryz.prog 216 #[.int .i64 n] w (fun e w'=>e=.returned (.bool (princL n))∧w'=w):=by
 by_cases h1:0≤n
 ·by_cases h2:n≤15
  ·have E:=hide (show princL n=true from by unfold princL;rw [decide_eq_true h1,decide_eq_true h2];rfl)
   have h3:n<16:=by omega
   go_enter Tryz.func216,Tryz.ntmps216
   go_wp2_with fail
   go_ret
   exact ⟨by rw [E.out];rfl,rfl⟩
  ·have E:=hide (show princL n=false from by unfold princL;rw [decide_eq_false h2,Bool.and_false])
   have h3:¬ n<16:=by omega
   go_enter Tryz.func216,Tryz.ntmps216
   go_wp2_with fail
   go_ret
   exact ⟨by rw [E.out];rfl,rfl⟩
 ·have E:=hide (show princL n=false from by unfold princL;rw [decide_eq_false h1,Bool.false_and])
  go_enter Tryz.func216,Tryz.ntmps216
  go_wp2_with fail
  go_ret
  exact ⟨by rw [E.out];rfl,rfl⟩
theorem rprinc_any (n:Int) (w:World):Calls Tryz.prog 152 #[.int .i64 n] w (fun e w'=>e=.returned (.bool (princL n))∧w'=w):=by
 by_cases h1:0≤n
 ·by_cases h2:n≤15
  ·have E:=hide (show princL n=true from by unfold princL;rw [decide_eq_true h1,decide_eq_true h2];rfl)
   go_enter Tryz.func152,Tryz.ntmps152
   go_wp2_with fail
   go_ret
   exact ⟨by rw [E.out];rfl,rfl⟩
  ·have E:=hide (show princL n=false from by unfold princL;rw [decide_eq_false h2,Bool.and_false])
   go_enter Tryz.func152,Tryz.ntmps152
   go_wp2_with fail
   go_ret
   exact ⟨by rw [E.out];rfl,rfl⟩
 ·have E:=hide (show princL n=false from by unfold princL;rw [decide_eq_false h1,Bool.false_and])
  go_enter Tryz.func152,Tryz.ntmps152
  go_wp2_with fail
  go_ret
  exact ⟨by rw [E.out];rfl,rfl⟩
theorem group_any (a b c:Int) (w:World):Calls Tryz.prog 225 #[.int .u32 a,.int .u32 b,.int .u32 c] w (fun e w'=>e=.returned (.bool (groupL a b c))∧w'=w):=by
 by_cases h1:1024≤a
 ·by_cases h2:a≤b
  ·by_cases h3:b≤c
   ·by_cases h4:c≤8192
    ·have E:=hide (show groupL a b c=true from by unfold groupL;rw [decide_eq_true h1,decide_eq_true h2,decide_eq_true h3,decide_eq_true h4];rfl)
     go_enter Tryz.func225,Tryz.ntmps225
     go_wp2_with fail
     go_ret
     exact ⟨by rw [E.out];rfl,rfl⟩
    ·have E:=hide (show groupL a b c=false from by unfold groupL;rw [decide_eq_false h4,Bool.and_false])
     go_enter Tryz.func225,Tryz.ntmps225
     go_wp2_with fail
     go_ret
     exact ⟨by rw [E.out];rfl,rfl⟩
   ·have E:=hide (show groupL a b c=false from by unfold groupL;rw [decide_eq_false h3,Bool.and_false,Bool.false_and])
    go_enter Tryz.func225,Tryz.ntmps225
    go_wp2_with fail
    go_ret
    exact ⟨by rw [E.out];rfl,rfl⟩
  ·have E:=hide (show groupL a b c=false from by unfold groupL;rw [decide_eq_false h2,Bool.and_false,Bool.false_and,Bool.false_and])
   go_enter Tryz.func225,Tryz.ntmps225
   go_wp2_with fail
   go_ret
   exact ⟨by rw [E.out];rfl,rfl⟩
 ·have E:=hide (show groupL a b c=false from by unfold groupL;rw [decide_eq_false h1,Bool.false_and,Bool.false_and,Bool.false_and])
  go_enter Tryz.func225,Tryz.ntmps225
  go_wp2_with fail
  go_ret
  exact ⟨by rw [E.out];rfl,rfl⟩
theorem rgroup_any (a b c:Int) (w:World):Calls Tryz.prog 231 #[.int .i64 a,.int .i64 b,.int .i64 c] w (fun e w'=>e=.returned (.bool (groupL a b c))∧w'=w):=by
 by_cases h1:1024≤a
 ·by_cases h2:a≤b
  ·by_cases h3:b≤c
   ·by_cases h4:c≤8192
    ·have E:=hide (show groupL a b c=true from by unfold groupL;rw [decide_eq_true h1,decide_eq_true h2,decide_eq_true h3,decide_eq_true h4];rfl)
     go_enter Tryz.func231,Tryz.ntmps231
     go_wp2_with fail
     go_ret
     exact ⟨by rw [E.out];rfl,rfl⟩
    ·have E:=hide (show groupL a b c=false from by unfold groupL;rw [decide_eq_false h4,Bool.and_false])
     go_enter Tryz.func231,Tryz.ntmps231
     go_wp2_with fail
     go_ret
     exact ⟨by rw [E.out];rfl,rfl⟩
   ·have E:=hide (show groupL a b c=false from by unfold groupL;rw [decide_eq_false h3,Bool.and_false,Bool.false_and])
    go_enter Tryz.func231,Tryz.ntmps231
    go_wp2_with fail
    go_ret
    exact ⟨by rw [E.out];rfl,rfl⟩
  ·have E:=hide (show groupL a b c=false from by unfold groupL;rw [decide_eq_false h2,Bool.and_false,Bool.false_and,Bool.false_and])
   go_enter Tryz.func231,Tryz.ntmps231
   go_wp2_with fail
   go_ret
   exact ⟨by rw [E.out];rfl,rfl⟩
 ·have E:=hide (show groupL a b c=false from by unfold groupL;rw [decide_eq_false h1,Bool.false_and,Bool.false_and,Bool.false_and])
  go_enter Tryz.func231,Tryz.ntmps231
  go_wp2_with fail
  go_ret
  exact ⟨by rw [E.out];rfl,rfl⟩
end
def MaxB (B:Nat) (w:World):Prop:=∃w0:World,MaxL w0∧w0.heap.size≤B∧Below w0.heap.size w0 w
theorem MaxB.maxL {B:Nat} {w:World} (h:MaxB B w):MaxL w:=by
 obtain ⟨w0,h1,_,h3⟩:=h
 exact h1.below h3
theorem MaxB.below {B:Nat} {w w':World} (h:MaxB B w) (hb:Below w.heap.size w w'):MaxB B w':=by
 obtain ⟨w0,h1,h2,h3⟩:=h
 exact ⟨w0,h1,h2,h3.trans (hb.mono h3.size)⟩
theorem MaxB.grown {B g:Nat} {w w':World} {T:List Tm} {S S':Nat→Prop} (h:MaxB B w) (hU:Use B w g T S) (hG:Grown S w S' w'):MaxB B w':=by
 obtain ⟨w0,h1,h2,h3⟩:=h
 exact ⟨w0,h1,h2,h3.trans ((hG.below hU.base hU.ar.sB).mono h2)⟩
structure Pay (w0:World) (B g:Nat) (T:List Tm) (S:Nat→Prop) (w:World):Prop where
 use:Use B w g T S
 max:MaxB B w
 bel:Below w0.heap.size w0 w
 base:w0.heap.size≤B
section
variable {w0 w w' : World} {B g : Nat} {T T' : List Tm} {S S' : Nat → Prop}
theorem Pay.new (hT:Tab w0) (hM:MaxL w0) (hb0:Below w0.heap.size w0 w) (h:Ar w.heap.size w' g [] S) (hb:Below w.heap.size w w'):Pay w0 w.heap.size g [] S w' :=
 ⟨⟨h,⟨w0,hT,hb0.size,hb0.trans (hb.mono hb0.size)⟩,hb.size,Nat.zero_le _⟩,⟨w0,hM,hb0.size,hb0.trans (hb.mono hb0.size)⟩,hb0.trans (hb.mono hb0.size),hb0.size⟩
theorem Pay.below (h:Pay w0 B g T S w) (hb:Below w.heap.size w w'):Pay w0 B g T S w' :=
 ⟨h.use.below hb,h.max.below hb,h.bel.trans (hb.mono h.bel.size),h.base⟩
theorem Pay.grown (h:Pay w0 B g T S w) (hG:Grown S w S' w') (hA:Ar B w' g T' S') (hf:T'.length≤1000000000):Pay w0 B g T' S' w' :=
 ⟨h.use.grown hG hA hf,h.max.grown h.use hG,h.bel.trans ((hG.below h.use.base h.use.ar.sB).mono h.base),h.base⟩
theorem Pay.kept (h:Pay w0 B g T S w) {b:Nat} (k:w.grownBy w' (some b)) (hn:¬ S b) (hB:B≤b):Pay w0 B g T S w':=by
 refine ⟨h.use.kept k (fun i e=>by cases e;exact ⟨hn,hB⟩),?_,h.bel.grown k h.bel.size (fun i e=>by cases e;have:=h.base;omega),h.base⟩
 obtain ⟨w9,h1,h2,h3⟩:=h.max
 exact ⟨w9,h1,h2,h3.grown k h3.size (fun i e=>by cases e;omega)⟩
theorem Pay.ar (h:Pay w0 B g T S w):Ar B w g T S:=h.use.ar
end
end Go.Proofs.YtnhekaepgpbijaaGreatDoor
