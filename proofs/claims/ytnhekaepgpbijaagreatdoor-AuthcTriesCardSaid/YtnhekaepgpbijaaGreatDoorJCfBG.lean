/- Several of my texts in one: KxPG, Nam, CfA, CfB. -/
import Derived.Test.YtnhekaepgpbijaaGreatDoorJChnG
import Derived.Test.YtnhekaepgpbijaaGreatDoorJMsgHG
import Derived.Lib.Split
import Derived.Lib.IndexAny
import Derived.Lib.Join
import Derived.Test.YtnhekaepgpbijaaGreatDoorJShelf
import Derived.Lib.SplitLaws
set_option linter.unusedVariables false
set_option linter.unusedSimpArgs false
set_option maxHeartbeats 40000000
set_option maxRecDepth 100000
namespace Go.Proofs.YtnhekaepgpbijaaGreatDoor
open Go.RowKit Go.ChangeShapes Go.WideShapes Go.Sort
def Rc (ls:List (List UInt8)) (s:List UInt8) (w:World) (e:Ending) (w':World):Prop:=∃k:Int,e=.returned (.int .i64 k)∧w'=w∧decide (0≤k)=decide (s∈ls)
theorem NC {ls:List (List UInt8)} {s:List UInt8} {w:World} {i:Nat} (hi:i<ls.length) (h:ls[i]=s):Rc ls s w (.returned (.int .i64 i)) w :=
 ⟨i,rfl,rfl,by rw [decide_eq_true (show (0:Int)≤i by omega),decide_eq_true (by rw [←h];exact List.getElem_mem hi)]⟩
theorem Qm {ls:List (List UInt8)} {s:List UInt8} {w:World} (h:s ∉ ls):Rc ls s w (.returned (.int .i64 (-1))) w :=
 ⟨-1,rfl,rfl,by rw [decide_eq_false (by decide),decide_eq_false h]⟩
theorem Bu {ls:List (List UInt8)} {s:List UInt8} {i:Nat} (hi:i<ls.length) (h:s ∉ ls.take i) (hn:ls[i]≠s):s ∉ ls.take (i+1):=by
 rw [List.take_succ_eq_append_getElem hi,List.mem_append,List.mem_singleton];exact fun h2=>h2.elim h (fun e=>hn e.symm)
section
variable {w : World} {A : Option Addr} {c : Nat} {ls : List (List UInt8)}
theorem K7 (h:Txs w (.slice A ls.length c) ls) (hll:ls.length≤9223372036854775807) (s:List UInt8):Calls Tryz.prog 265 #[.slice A ls.length c,.string (bs s)] w (Rc ls s w):=by
 obtain ⟨A',c',hv,hA⟩:=h.open_;obtain ⟨rfl,rfl⟩:A'=A∧c'=c:=by injection hv with e1 _ e2;exact ⟨e1.symm,e2.symm⟩
 clear hv h;go_enter Tryz.func265,Tryz.ntmps265;go_wp2_with fail
 go_loop [8] (fun i=>∃k:Nat,k≤ls.length∧i=.int .i64 k∧Hid (s ∉ ls.take k)) (fun i=>ls.length - (intOf i).toNat)
 case atStart=>exact ⟨0,Nat.zero_le _,rfl,hide (by simp)⟩
 case round =>
  obtain ⟨k,hk,rfl,H⟩:=hrel
  by_cases hlt:k<ls.length
  ·have hkI:(k:Int)<ls.length:=by omega
   obtain ⟨ad,rfl,had,hc⟩:=hA k hlt
   by_cases he:ls[k]=s
   ·have e1:((bs s).toList == (bs ls[k]).toList)=true:=by rw [he];exact beq_self_eq_true _
    have HY:=hide (NC (w:=w) hlt he);clear he H hA;go_wp2_with fail;go_ret;exact HY.out
   ·have e1:((bs s).toList == (bs ls[k]).toList)=false:=dU (fun e=>he (tT e).symm)
    have HN:=hide (Bu hlt H.out he);clear he H hA;go_wp2_with fail;go_round
    case rel=>exact ⟨k+1,hlt,by go_num,HN⟩
    case measure=>simp [intOf];omega
  ·have hkI:¬ (k:Int)<ls.length:=by omega
   have HN:=hide (Qm (w:=w) (ls:=ls) (s:=s) (by have:=H.out;rwa [List.take_of_length_le (by omega)] at this));clear H hA;go_wp2_with fail;go_ret;exact HN.out
theorem Oi (h:Txs w (.slice A ls.length c) ls) (hll:ls.length≤9223372036854775807) (s:List UInt8):Calls Tryz.prog 205 #[.slice A ls.length c,.string (bs s)] w (fun e w'=>e=.returned (.bool (decide (s∈ls)))∧w'=w):=by
 have H:=hide (K7 h hll s);clear h;generalize hz:decide (s∈ls)=z;have Hz:=hide hz;clear hz;go_enter Tryz.func205,Tryz.ntmps205;go_wp2_with fail;refine H.out.mono ?_;rintro e w1 ⟨k,rfl,rfl,hk⟩;have HZ:=hide (hk.trans Hz.out);clear hk H;go_wp2_with fail;go_ret;exact ⟨by rw [←HZ.out];rfl,rfl⟩
theorem pg (h:Txs w (.slice A ls.length c) ls) (hll:ls.length≤9223372036854775807) (s:List UInt8):Calls Tryz.prog 129 #[.slice A ls.length c,.string (bs s)] w (fun e w'=>e=.returned (.bool (decide (s∈ls)))∧w'=w):=by
 have H:=hide (Oi h hll s);clear h;go_enter Tryz.func129,Tryz.ntmps129;go_wp2_with fail;refine H.out.mono ?_;rintro e w1 ⟨rfl,rfl⟩;go_wp2_with fail;go_ret;exact ⟨rfl,rfl⟩
theorem sO (h:Txs w (.slice A ls.length c) ls) (hll:ls.length≤9223372036854775807) (s:List UInt8):Calls Tryz.prog 78 #[.slice A ls.length c,.string (bs s)] w (fun e w'=>e=.returned (.bool (decide (s∈ls)))∧w'=w):=by
 obtain ⟨A',c',hv,hA⟩:=h.open_;obtain ⟨rfl,rfl⟩:A'=A∧c'=c:=by injection hv with e1 _ e2;exact ⟨e1.symm,e2.symm⟩
 clear hv h;generalize hz:decide (s∈ls)=z;have Hz:=hide hz;clear hz;go_enter Tryz.func78,Tryz.ntmps78;go_wp2_with fail
 go_loop [5] (fun i=>∃k:Nat,k≤ls.length∧i=.int .i64 k∧Hid (s ∉ ls.take k)) (fun i=>ls.length - (intOf i).toNat)
 case atStart=>exact ⟨0,Nat.zero_le _,rfl,hide (by simp)⟩
 case round =>
  obtain ⟨k,hk,rfl,H⟩:=hrel
  by_cases hlt:k<ls.length
  ·have hkI:(k:Int)<ls.length:=by omega
   obtain ⟨ad,rfl,had,hc⟩:=hA k hlt
   by_cases he:ls[k]=s
   ·have e1:((bs ls[k]).toList == (bs s).toList)=true:=by rw [he];exact beq_self_eq_true _
    have HY:=hide (show z=true from by rw [←Hz.out];exact decide_eq_true (by rw [←he];exact List.getElem_mem hlt));clear he H hA;go_wp2_with fail;go_ret;exact ⟨by rw [HY.out];rfl,rfl⟩
   ·have e1:((bs ls[k]).toList == (bs s).toList)=false:=dU (fun e=>he (tT e))
    have HN:=hide (Bu hlt H.out he);clear he H hA;go_wp2_with fail;go_round
    case rel=>exact ⟨k+1,hlt,by go_num,HN⟩
    case measure=>simp [intOf];omega
  ·have hkI:¬ (k:Int)<ls.length:=by omega
   have HN:=hide (show z=false from by rw [←Hz.out];exact decide_eq_false (by have:=H.out;rwa [List.take_of_length_le (by omega)] at this));clear H hA;go_wp2_with fail;go_ret;exact ⟨by rw [HN.out];rfl,rfl⟩
end
def Gp:List UInt8:=[101,120,116,45,105,110,102,111,45,99]
def Nj:List UInt8:=[101,120,116,45,105,110,102,111,45,115]
def Q3:List UInt8:=[107,101,120,45,115,116,114,105,99,116,45,99,45,118,48,48]
def Ut:List UInt8:=[107,101,120,45,115,116,114,105,99,116,45,115,45,118,48,48]
section
variable {w : World}
theorem OJ {w:World} {b:Nat} {ls:List (List UInt8)} (h:Blk w b 9 ((ls.map bs).map Value.string).toArray) (c:Nat):Txs w (.slice (some ⟨b,0,none⟩) ls.length c) ls:=by
 have:=Blk.strs (lo:=0) (ss:=ls.map bs) h (Nat.zero_le _) c;rw [List.length_map] at this;exact this
end
end Go.Proofs.YtnhekaepgpbijaaGreatDoor

namespace Go.Proofs.YtnhekaepgpbijaaGreatDoor
def vP (b:Bool) (m:List UInt8):List (List UInt8):=if b=true then [m] else []
structure UA where
 rest:List (List UInt8)
 a:Bool
 b:Bool
 c:Bool
 d:Bool
theorem sJ {l:List UInt8} (h:(44:UInt8) ∉ l):Lib.index l [44]=-1:=by
 induction l with
 | nil=>rfl
 | cons c r ih =>
  simp only [List.mem_cons,not_or] at h;simp only [Lib.index];rw [if_neg (by simp [h.1]),ih h.2];rfl
theorem rC {x:List UInt8} (r:List UInt8) (h:(44:UInt8) ∉ x):Lib.index (x++44 :: r) [44]=x.length:=by
 induction x with
 | nil=>simp [Lib.index]
 | cons c x ih =>
  simp only [List.mem_cons,not_or] at h;simp only [List.cons_append,Lib.index];rw [if_neg (by simp [h.1]),ih h.2];have:(((x.length:Nat):Int) == -1)=false:=by rw [beq_eq_false_iff_ne];omega
  rw [this];simp
theorem AX (l:List UInt8):(44:UInt8) ∉ l∨∃x r,l=x++44 :: r∧(44:UInt8) ∉ x:=by
 by_cases h:(44:UInt8)∈l
 ·obtain ⟨x,r,h1,h2⟩:=List.eq_append_cons_of_mem h
  exact .inr ⟨x,r,h1,h2⟩
 ·exact .inl h
theorem yw:∀(n:Nat) (l:List UInt8),l.length≤n→Lib.splitK [44] 0 (Lib.count l [44]) l=aX l:=by
 intro n
 induction n with
 | zero =>
  intro l hl;have:l=[]:=List.eq_nil_of_length_eq_zero (by omega);subst this;rfl
 | succ n ih =>
  intro l hl;rcases AX l with h | ⟨x,r,rfl,h⟩
  ·rw [Lib.count_miss (sJ h),qN h]
   rfl
  ·have hi:=rC r h
   have hd:(x++44 :: r).drop (x.length+1)=r:=by
    rw [←List.drop_drop,List.drop_left];rfl
   have hc:Lib.count (x++44 :: r) [44]=1+Lib.count r [44]:=by
    rw [Lib.count_hit (by simp) hi];rw [show ([44]:List UInt8).length=1 from rfl,hd]
   rw [hc,Nat.add_comm,Lib.splitK,hi];have:(((x.length:Nat):Int) == -1)=false:=by rw [beq_eq_false_iff_ne];omega
   rw [this];simp only [Bool.false_eq_true,if_false,Int.toNat_natCast,Nat.add_zero];rw [show ([44]:List UInt8).length=1 from rfl,hd,List.take_left,uK h,ih r (by simp at hl;omega)]
theorem oH (s:ByteArray):(Lib.splitB ⟨#[44]⟩ 0 (Lib.countB s ⟨#[44]⟩) s).map (·.data.toList)=aX s.data.toList:=by
 rw [Lib.splitB_data];exact yw _ _ (Nat.le_refl _)
theorem Fp (l:List (List UInt8)):Lib.join l [44]=bv l:=by
 induction l with
 | nil=>rfl
 | cons x l ih =>
  cases l with
  | nil=>simp [Lib.join_one,bv]
  | cons y r =>
   rw [Lib.join_cons] at ih ⊢;rw [fe _ (by simp),← ih];simp [Lib.joinTail]
theorem uB (l:List UInt8):decide (0≤Lib.indexByte l 44)=l.contains 44:=(Lib.contains_iff_indexByte l 44).symm
theorem xM {s:List UInt8} (h:∀c∈s,33≤c.toNat∧c.toNat≤126):bf s=(decide (1≤s.length) && decide (s.length≤64) && !(s.contains 44)):=by
 have h2:(s.all fun c=>decide (33≤c.toNat) && decide (c.toNat≤126) && !(c == 44))=!(s.contains 44):=by
  induction s with
  | nil=>rfl
  | cons c r ih =>
   have hc:=h c (by simp);rw [List.all_cons,ih (fun d hd=>h d (by simp [hd])),List.contains_cons];simp only [hc.1,hc.2,decide_true,Bool.true_and,Bool.not_or];rw [show (c == (44:UInt8))=((44:UInt8) == c) from by rw [Bool.eq_iff_iff,beq_iff_eq,beq_iff_eq];exact eq_comm]
 unfold bf;rw [h2];cases s.contains 44 <;> simp
theorem ko {s:List UInt8} {c:UInt8} (hc:c∈s) (h:c.toNat<33∨126<c.toNat∨c=44):bf s=false:=by
 cases hr:bf s with
 | false=>rfl
 | true =>
  exfalso;unfold bf at hr;simp only [Bool.and_eq_true,List.all_eq_true,decide_eq_true_eq,Bool.not_eq_true',beq_eq_false_iff_ne] at hr;have:=hr.1.1 c hc;rcases h with h | h | h
  ·omega
  ·omega
  ·exact this.2 h
theorem CP {s:List UInt8} (h:∀c∈s,33≤c.toNat∧c.toNat≤126∧c≠44):bf s=(decide (1≤s.length) && decide (s.length≤64)):=by
 rw [xM (fun c hc=>⟨(h c hc).1,(h c hc).2.1⟩)]
 have:s.contains 44=false:=by
  rw [List.contains_eq_mem];simp only [decide_eq_false_iff_not];intro hm;exact (h 44 hm).2.2 rfl
 rw [this];simp
theorem xA {l:List (List UInt8)} (h16:l.length≤16) {x:List UInt8} (hx:x∈l) (hr:bf x=false):bF l=3:=by
 unfold bF;rw [if_neg (by omega),if_neg];intro h;rw [List.all_eq_true] at h;rw [h x hx] at hr;cases hr
theorem ut {l:List (List UInt8)} (h16:l.length≤16) (h:∀x∈l,bf x=true):bF l=0:=by
 unfold bF;rw [if_neg (by omega),if_pos (by rw [List.all_eq_true];exact h)]
theorem lS {l:List (List UInt8)} (h16:16<l.length):bF l=2:=by
 unfold bF;rw [if_pos h16]
end Go.Proofs.YtnhekaepgpbijaaGreatDoor
namespace Go.Proofs.YtnhekaepgpbijaaGreatDoor
open Go.RowKit Go.ChangeShapes Go.WideShapes Go.Sort
def jq (w:World):Prop:=∃m,w.cell? ⟨4,0,none⟩=some (.int .i64 m)
theorem jq.below {w w':World} (h:jq w) (hb:Below w.heap.size w w'):jq w':=by
 obtain ⟨m,hm⟩:=h;exact ⟨m,(hb.cell (p:=⟨4,0,none⟩) (World.block_lt_of_cell? w _ hm)).trans hm⟩
theorem iP {w:World} (o:Obj):Below w.heap.size w (w.alloc o):=(Below.refl _ _).alloc (Nat.le_refl _) o
def TG (w w':World) (v:Value) (ls:List (List UInt8)):Prop:=Strs w.heap.size w' v (ls.map bs)
theorem TG.txs {w w':World} {v:Value} {ls:List (List UInt8)} (h:TG w w' v ls):Txs w' v ls:=Strs.mono h (Nat.zero_le _)
def bG (lo:Nat) (w':World) (v:Value) (ls:List (List UInt8)):Prop:=∃A c,v=.slice A ls.length c∧ls.length≤c∧Sl lo w' 1 A ls.length ((ls.map bs).map Value.string)
theorem gT (lo:Nat) (w':World) (c:Nat):bG lo w' (.slice none 0 c) []:=⟨none,c,rfl,Nat.zero_le _,Sl.nil_⟩
theorem yN {lo:Nat} {w':World} {A:Option Addr} {n c:Nat} {ls:List (List UInt8)} (h:Strs lo w' (.slice A n c) (ls.map bs)) (hc:ls.length≤c):bG lo w' (.slice A n c) ls:=by
 obtain ⟨A',c',e,hS⟩:=h;injection e with e1 e2 e3;subst e1 e2 e3;rw [List.length_map] at hS ⊢;exact ⟨A,c,rfl,hc,hS⟩
theorem bG.mono {lo lo2:Nat} {w':World} {v:Value} {ls:List (List UInt8)} (h:bG lo w' v ls) (hl:lo2≤lo):bG lo2 w' v ls:=by
 obtain ⟨A,c,e,hc,hS⟩:=h;exact ⟨A,c,e,hc,hS.mono hl⟩
theorem bG.set_ {lo:Nat} {w':World} {v:Value} {ls:List (List UInt8)} (h:bG lo w' v ls) {p:Addr} (hp:p.block<lo) (u:Value):bG lo (w'.setCell p u) v ls:=by
 obtain ⟨A,c,e,hc,hS⟩:=h;exact ⟨A,c,e,hc,hS.setCell hp u⟩
theorem bQ {s:ByteArray} {k:Nat} (h:k<s.size):s[k]∈s.data.toList:=by
 have h2:k<s.data.toList.length:=h;exact List.mem_iff_getElem.2 ⟨k,h2,rfl⟩
theorem jI {s:ByteArray} {k:Nat} {P:UInt8→Prop} (h:k<s.size) (ha:∀c∈s.data.toList.take k,P c) (hk:P s[k]):∀c∈s.data.toList.take (k+1),P c:=by
 intro c hc;have h2:k<s.data.toList.length:=h;rw [List.take_succ_eq_append_getElem h2] at hc;rcases List.mem_append.1 hc with hc | hc
 ·exact ha c hc
 ·simp only [List.mem_singleton] at hc
  subst hc;exact hk
theorem jy {s:ByteArray} {k:Nat} {P:UInt8→Prop} (h:¬ k<s.size) (ha:∀c∈s.data.toList.take k,P c):∀c∈s.data.toList,P c:=by
 intro c hc;refine ha c ?_;rw [List.take_of_length_le (by show s.size≤k;omega)];exact hc
section
variable {w : World}
theorem Dv (s:ByteArray) (hs:s.size≤9223372036854775807) (w:World):Calls Tryz.prog 279 #[.string s] w (fun e w'=>e=.returned (.bool (bf s.data.toList))∧w'=w):=by
 have HC:=hide (fun W=>Tryz.strings_Contains_one s 44 W);rw [uB] at HC;generalize hb:s.data.toList.contains 44=b at HC;have Hb:=hide hb;clear hb;go_enter Tryz.func279,Tryz.ntmps279;go_wp2_with fail
 go_loop [6] (fun i=>∃k:Nat,k≤s.size∧i=.int .i64 k∧Hid (∀c∈s.data.toList.take k,33≤c.toNat∧c.toNat≤126)) (fun i=>s.size - (intOf i).toNat)
 case atStart=>exact ⟨0,Nat.zero_le _,rfl,hide (by simp)⟩
 case round =>
  obtain ⟨k,hk,rfl,H⟩:=hrel
  by_cases hlt:k<s.size
  ·by_cases h1:s[k].toNat<33
   ·have h1':(s[k].toNat:Int)<33:=by omega
    have E:=hide (ko (bQ hlt) (.inl h1));go_wp2_with fail;go_ret;exact ⟨by rw [E.out];rfl,rfl⟩
   ·have h1':¬ (s[k].toNat:Int)<33:=by omega
    by_cases h2:126<s[k].toNat
    ·have h2':(126:Int)<s[k].toNat:=by omega
     have E:=hide (ko (bQ hlt) (.inr (.inl h2)));go_wp2_with fail;go_ret;exact ⟨by rw [E.out];rfl,rfl⟩
    ·have h2':¬ (126:Int)<s[k].toNat:=by omega
     have H2:=hide (jI hlt H.out ⟨Nat.le_of_not_lt h1,Nat.le_of_not_lt h2⟩);clear H;go_wp2_with fail;go_round
     case rel=>exact ⟨k+1,hlt,by go_num,H2⟩
     case measure=>simp [intOf];omega
  ·have E:=hide (xM (jy hlt H.out))
   rw [Hb.out] at E;clear H Hb
   by_cases h0:s=⟨#[]⟩
   ·subst h0
    go_wp2_with fail;go_ret;exact ⟨rfl,rfl⟩
   ·have hne:=gq h0
    have hne2:=dU h0
    have hne3:(s.toList != [])=true:=by
     rw [bne,Bool.not_eq_true'];simpa [ByteArray.toList_eq] using hne2
    have hl1:1≤s.data.toList.length:=by
     rcases Nat.eq_zero_or_pos s.data.toList.length with h9 | h9
     ·exact absurd (toList_inj (List.eq_nil_of_length_eq_zero h9)) h0
     ·exact h9
    have hl2:s.data.toList.length=s.size:=rfl
    by_cases h64:s.size≤64
    ·have h64':(s.size:Int)≤64:=by omega
     go_wp2_with (go_at_call 302;refine (HC.out _).mono ?_;rintro e w1 ⟨rfl,rfl⟩);go_ret;refine ⟨?_,rfl⟩;rw [E.out,decide_eq_true hl1,hl2,decide_eq_true h64];rfl
    ·have h64':¬ (s.size:Int)≤64:=by omega
     go_wp2_with fail;go_ret;refine ⟨?_,rfl⟩;rw [E.out,decide_eq_true hl1,hl2,decide_eq_false h64];rfl
theorem tK {A:Option Addr} {c:Nat} {ls:List (List UInt8)} (h:Txs w (.slice A ls.length c) ls) (hl:∀y∈ls,y.length≤9223372036854775807) :
  Calls Tryz.prog 240 #[.slice A ls.length c] w (fun e w'=>e=.returned (.int .i64 (bF ls))∧w'=w):=by
 obtain ⟨A',c',hv,hA⟩:=h.open_;obtain ⟨rfl,rfl⟩:A'=A∧c'=c:=by injection hv with e1 _ e2;exact ⟨e1.symm,e2.symm⟩
 clear hv h;go_enter Tryz.func240,Tryz.ntmps240
 by_cases h16:16<ls.length
 ·have h16':(16:Int)<ls.length:=by omega
  have E:=hide (lS h16);go_wp2_with fail;go_ret;exact ⟨by rw [E.out];rfl,rfl⟩
 ·have h16':¬ (16:Int)<ls.length:=by omega
  have Hl:=hide hl;clear hl;go_wp2_with fail
  go_loop [10] (fun i=>∃k:Nat,k≤ls.length∧i=.int .i64 k∧Hid (∀x∈ls.take k,bf x=true)) (fun i=>ls.length - (intOf i).toNat)
  case atStart=>exact ⟨0,Nat.zero_le _,rfl,hide (by simp)⟩
  case round =>
   obtain ⟨k,hk,rfl,H⟩:=hrel
   by_cases hlt:k<ls.length
   ·obtain ⟨ad,rfl,had,hc⟩:=hA k hlt
    have HR:=hide (Dv (bs ls[k]) (Hl.out _ (List.getElem_mem hlt)) w);rw [aU] at HR;have hmem:=List.getElem_mem hlt
    cases hr:bf ls[k] with
    | false =>
     rw [hr] at HR;have E:=hide (xA (l:=ls) (by omega) hmem hr);clear hmem hr;go_wp2_with (go_at_call 279;refine HR.out.mono ?_;rintro e w1 ⟨rfl,rfl⟩);go_ret;exact ⟨by rw [E.out];rfl,rfl⟩
    | true =>
     rw [hr] at HR
     have H2:=hide (show ∀x∈ls.take (k+1),bf x=true from by
      intro x hx;rw [List.take_succ_eq_append_getElem hlt] at hx;rcases List.mem_append.1 hx with hx | hx
      ·exact H.out x hx
      ·simp only [List.mem_singleton] at hx
       subst hx
       exact hr)
     clear hmem hr H;go_wp2_with (go_at_call 279;refine HR.out.mono ?_;rintro e w1 ⟨rfl,rfl⟩);go_round
     case rel=>exact ⟨k+1,hlt,by go_num,H2⟩
     case measure=>simp [intOf];omega
   ·have E:=hide (ut (l:=ls) (by omega) (fun x hx=>H.out x (by rw [List.take_of_length_le (by omega)];exact hx)))
    clear H hA;go_wp2_with fail;go_ret;exact ⟨by rw [E.out];rfl,rfl⟩
theorem ED (s:ByteArray) (w:World):((Lib.splitB ⟨#[44]⟩ 0 (Lib.countB s ⟨#[44]⟩) s).map Value.string)=((aX s.data.toList).map bs).map Value.string:=by
 rw [←oH,List.map_map,List.map_map];congr 1
theorem EE (s:ByteArray):Lib.countB s ⟨#[44]⟩+1=(aX s.data.toList).length:=by
 rw [←oH,List.length_map,Lib.splitB_all ⟨#[44]⟩ (by decide) 0 _ s rfl]
theorem Ao (s:List UInt8):∀x∈aX s,x.length≤s.length:=by
 induction s with
 | nil=>simp [aX]
 | cons c r ih =>
  intro x hx;unfold aX at hx
  split at hx
  ·rcases List.mem_cons.1 hx with rfl | hx
   ·simp
   ·have:=ih x hx
    simp;omega
  ·rcases List.mem_cons.1 hx with rfl | hx
   ·have hne:=wG r
    cases hs:aX r with
    | nil=>exact absurd hs hne
    | cons y ys =>
     have:=ih y (by rw [hs];simp);simp;omega
   ·have:=ih x (List.mem_of_mem_tail hx)
    simp;omega
theorem uR (s:ByteArray) (hM:jq w) (hs:s.size<4294967281) :
  Calls Tryz.prog 159 #[.string s] w (fun e w'=>∃v,e=.returned (.tuple #[v,.int .i64 (splitN s.data.toList).1])∧bG w.heap.size w' v (splitN s.data.toList).2∧Below w.heap.size w w'):=by
 obtain ⟨m,hm⟩:=hM
 by_cases h0:s=⟨#[]⟩
 ·subst h0
  go_enter Tryz.func159,Tryz.ntmps159;go_wp2_with fail;go_ret2;exact ⟨_,rfl,gT _ _ _,by exact aa⟩
 ·have hne:=dU h0
  have hne2:=gq h0;have hnl:s.data.toList≠[]:=fun e=>h0 (toList_inj e)
  have HS:=hide (Tryz.strings_Split s ⟨#[44]⟩ m w hs hm (by decide));rw [ED s w,EE s] at HS
  have hT:Strs w.heap.size (w.alloc (.cells (((aX s.data.toList).map bs).map Value.string).toArray 9)) (.slice (some ⟨w.heap.size,0,none⟩) (aX s.data.toList).length (aX s.data.toList).length) ((aX s.data.toList).map bs):=by
   have h9:=bK w 9 ((aX s.data.toList).map bs) _ rfl;rw [List.length_map] at h9;exact h9
  have hbl:=iP (w:=w) (.cells (((aX s.data.toList).map bs).map Value.string).toArray 9);have hls:=Ao s.data.toList
  have hsp:splitN s.data.toList=if bF (aX s.data.toList)=0 then (0,aX s.data.toList) else (bF (aX s.data.toList),[]):=by
   unfold splitN;rw [if_neg hnl]
  have hsz:s.data.toList.length=s.size:=rfl;have Hsp:=hide hsp;generalize aX s.data.toList=ls at HS hT hbl hls Hsp;generalize w.alloc (.cells ((ls.map bs).map Value.string).toArray 9)=w1 at HS hT hbl;have HK:=hide (tK (w:=w1) (c:=ls.length) (Strs.mono hT (Nat.zero_le _)) (fun y hy=>by have:=hls y hy;omega));have HT:=hide hT;clear hT hls hsp hnl hsz;go_enter Tryz.func159,Tryz.ntmps159;go_wp2_with (go_at_call 239;refine HS.out.mono ?_;rintro e w2 ⟨rfl,rfl⟩);refine HK.out.mono ?_;rintro e w3 ⟨rfl,rfl⟩;rcases iM ls with h9 | h9 | h9
  ·rw [h9] at Hsp ⊢
   go_wp2_with fail;go_ret2;rw [Hsp.out];exact ⟨_,rfl,yN HT.out (Nat.le_refl _),hbl⟩
  ·rw [h9] at Hsp ⊢
   go_wp2_with fail;go_ret2;rw [Hsp.out];exact ⟨_,rfl,gT _ _ _,hbl⟩
  ·rw [h9] at Hsp ⊢
   go_wp2_with fail;go_ret2;rw [Hsp.out];exact ⟨_,rfl,gT _ _ _,hbl⟩
def kH (ls:List (List UInt8)):List UInt8:=if bF ls=0 then bv ls else []
theorem p8 {A:Option Addr} {c:Nat} {ls:List (List UInt8)} (h:Txs w (.slice A ls.length c) ls) (hc:ls.length≤c) (hl:∀y∈ls,y.length≤9223372036854775807) :
  Calls Tryz.prog 202 #[.slice A ls.length c] w (fun e w'=>e=.returned (.tuple #[.string (bs (kH ls)),.int .i64 (bF ls)])∧Below w.heap.size w w'):=by
 have HK:=hide (tK h hl);rcases iM ls with h9 | h9 | h9
 ·have hj:kH ls=bv ls:=by unfold kH;rw [if_pos h9]
  obtain ⟨w1,w2⟩:=iK h9;have hjl:=jd (l:=ls) (fun y hy=>(fH (w2 y hy)).2)
  have hj2:Lib.join ((ls.map bs).map (·.data.toList)) (⟨#[44]⟩:ByteArray).data.toList=bv ls:=by
   rw [List.map_map,← Fp];congr 1
   conv=>rhs;rw [←List.map_id ls]
   rfl
  have HJ:Hid (Calls Tryz.prog 264 #[.slice A ls.length c,.string ⟨#[44]⟩] w (fun e w'=>e=.returned (.string (bs (bv ls)))∧Below w.heap.size w w')):=by
   by_cases hn:ls=[]
   ·subst hn
    refine hide ((Tryz.strings_Join_none A c ⟨#[44]⟩ w).mono ?_);rintro e w' ⟨rfl,rfl⟩;exact ⟨rfl,Below.refl _ _⟩
   ·obtain ⟨A',c',hv,hA⟩:=h.open_
    obtain ⟨rfl,rfl⟩:A'=A∧c'=c:=by injection hv with e1 _ e2;exact ⟨e1.symm,e2.symm⟩
    have hpos:0<ls.length:=List.length_pos_iff.2 hn;obtain ⟨ad,rfl,had,hc0⟩:=hA 0 hpos;have hsp:=World.cell?_spot hc0;obtain ⟨bk,o,sp⟩:=ad;have hsp2:sp=none:=by simpa [Addr.add] using hsp
    subst hsp2
    have:=Tryz.strings_Join bk o c' (ls.map bs) ⟨#[44]⟩ w (fun j x hx=>by
     rw [List.getElem?_map,Option.map_eq_some_iff] at hx;obtain ⟨y,hy,rfl⟩:=hx;obtain ⟨hj9,rfl⟩:=List.getElem?_eq_some_iff.1 hy;obtain ⟨ad2,e2,_,hc2⟩:=hA j hj9;injection e2 with e2;rw [←e2] at hc2;rw [←hc2];congr 1;unfold Addr.add
     split
     ·rename_i hz;subst hz;rfl
     ·rfl) had (by rw [List.length_map];omega) (by rw [List.length_map];exact hc) (by rw [hj2];omega)
    rw [hj2,List.length_map] at this;exact hide this
  rw [h9] at HK ⊢;rw [hj];clear h hj2 w2 hl;go_enter Tryz.func202,Tryz.ntmps202;go_wp2_with (go_at_call 240;refine HK.out.mono ?_;rintro e w1 ⟨rfl,rfl⟩);refine HJ.out.mono ?_;rintro e w2 ⟨rfl,hb2⟩;go_wp2_with fail;go_ret2;exact ⟨rfl,hb2⟩
 ·have hj:kH ls=[]:=by unfold kH;rw [if_neg (by omega)]
  rw [h9] at HK ⊢;rw [hj];clear h hl;go_enter Tryz.func202,Tryz.ntmps202;go_wp2_with (go_at_call 240;refine HK.out.mono ?_;rintro e w1 ⟨rfl,rfl⟩);go_ret2;exact ⟨rfl,Below.refl _ _⟩
 ·have hj:kH ls=[]:=by unfold kH;rw [if_neg (by omega)]
  rw [h9] at HK ⊢;rw [hj];clear h hl;go_enter Tryz.func202,Tryz.ntmps202;go_wp2_with (go_at_call 240;refine HK.out.mono ?_;rintro e w1 ⟨rfl,rfl⟩);go_ret2;exact ⟨rfl,Below.refl _ _⟩
end
def vB (a b:Nat) (l:List UInt8):Bool:=l.all fun c=>decide (a≤c.toNat) && decide (c.toNat≤b)
theorem om {a b:Nat} {l:List UInt8} (h:∀c∈l,a≤c.toNat∧c.toNat≤b):vB a b l=true:=by
 unfold vB;rw [List.all_eq_true];intro c hc;have:=h c hc;simp [this.1,this.2]
theorem kS {a b:Nat} {l:List UInt8} {c:UInt8} (hc:c∈l) (h:c.toNat<a∨b<c.toNat):vB a b l=false:=by
 cases hb:vB a b l with
 | false=>rfl
 | true =>
  exfalso;unfold vB at hb;rw [List.all_eq_true] at hb;have:=hb c hc;simp only [Bool.and_eq_true,decide_eq_true_eq] at this;omega
theorem vw (l:List UInt8) (b:UInt8):decide (0≤Lib.indexByte l b)=l.contains b:=(Lib.contains_iff_indexByte l b).symm
def bO (l:List UInt8):Bool:=vB 33 126 l && decide (1≤l.length) && decide (l.length≤64)
def fU (l:List UInt8):Bool:=vB 32 126 l && decide (l.length≤253)
def iR (l:List UInt8):Bool:=l.contains 32
def tX:List UInt8:=[83,83,72,45,50,46,48,45]
def qw (cm:List UInt8):List UInt8:=if cm=[] then [] else 32 :: cm
def bR (sw cm:List UInt8):List UInt8:=if sw=[]∨iR sw=true then [] else if fU (tX++sw++qw cm)=true then tX++sw++qw cm else []
def aQ (a b c:Int):Bool:=decide (1024≤a) && decide (a≤b) && decide (b≤c) && decide (c≤8192)
def aC (n:Int):Bool:=decide (0≤n) && decide (n≤15)
section
variable {w : World}
theorem Aa (s:ByteArray) (hs:s.size≤9223372036854775807) (w:World):Calls Tryz.prog 220 #[.string s] w (fun e w'=>e=.returned (.bool (bO s.data.toList))∧w'=w):=by
 have hl2:s.data.toList.length=s.size:=rfl;go_enter Tryz.func220,Tryz.ntmps220;go_wp2_with fail
 go_loop [6] (fun i=>∃k:Nat,k≤s.size∧i=.int .i64 k∧Hid (∀c∈s.data.toList.take k,33≤c.toNat∧c.toNat≤126)) (fun i=>s.size - (intOf i).toNat)
 case atStart=>exact ⟨0,Nat.zero_le _,rfl,hide (by simp)⟩
 case round =>
  obtain ⟨k,hk,rfl,H⟩:=hrel
  by_cases hlt:k<s.size
  ·by_cases h1:s[k].toNat<33
   ·have h1':(s[k].toNat:Int)≤32:=by omega
    have E:=hide (show bO s.data.toList=false from by unfold bO;rw [kS (bQ hlt) (.inl h1)];rfl);go_wp2_with fail;go_ret;exact ⟨by rw [E.out];rfl,rfl⟩
   ·have h1':¬ (s[k].toNat:Int)≤32:=by omega
    by_cases h2:126<s[k].toNat
    ·have h2':(126:Int)<s[k].toNat:=by omega
     have E:=hide (show bO s.data.toList=false from by unfold bO;rw [kS (bQ hlt) (.inr h2)];rfl);go_wp2_with fail;go_ret;exact ⟨by rw [E.out];rfl,rfl⟩
    ·have h2':¬ (126:Int)<s[k].toNat:=by omega
     have H2:=hide (jI hlt H.out ⟨Nat.le_of_not_lt h1,Nat.le_of_not_lt h2⟩);clear H;go_wp2_with fail;go_round
     case rel=>exact ⟨k+1,hlt,by go_num,H2⟩
     case measure=>simp [intOf];omega
  ·have E:=hide (om (jy hlt H.out))
   clear H
   by_cases h0:1≤s.size
   ·have h0':(1:Int)≤s.size:=by omega
    by_cases h64:s.size≤64
    ·have h64':(s.size:Int)≤64:=by omega
     go_wp2_with fail;go_ret;refine ⟨?_,rfl⟩;unfold bO;rw [E.out,hl2,decide_eq_true h0,decide_eq_true h64];rfl
    ·have h64':¬ (s.size:Int)≤64:=by omega
     go_wp2_with fail;go_ret;refine ⟨?_,rfl⟩;unfold bO;rw [E.out,hl2,decide_eq_false h64,Bool.and_false];rfl
   ·have h0':¬ (1:Int)≤s.size:=by omega
    go_wp2_with fail;go_ret;refine ⟨?_,rfl⟩;unfold bO;rw [hl2,decide_eq_false h0,Bool.and_false,Bool.false_and];rfl
theorem xy (s:ByteArray) (hs:s.size≤9223372036854775807) (w:World):Calls Tryz.prog 229 #[.string s] w (fun e w'=>e=.returned (.bool (bO s.data.toList))∧w'=w):=by
 have hl2:s.data.toList.length=s.size:=rfl;go_enter Tryz.func229,Tryz.ntmps229;go_wp2_with fail
 go_loop [3] (fun i=>∃k:Nat,k≤s.size∧i=.int .i64 k∧Hid (∀c∈s.data.toList.take k,33≤c.toNat∧c.toNat≤126)) (fun i=>s.size - (intOf i).toNat)
 case atStart=>exact ⟨0,Nat.zero_le _,rfl,hide (by simp)⟩
 case round =>
  obtain ⟨k,hk,rfl,H⟩:=hrel
  by_cases hlt:k<s.size
  ·have hlt':(k:Int)<s.size:=by omega
   by_cases h1:s[k].toNat<33
   ·have h1':(s[k].toNat:Int)<33:=by omega
    have E:=hide (show bO s.data.toList=false from by unfold bO;rw [kS (bQ hlt) (.inl h1)];rfl);go_wp2_with fail;go_ret;exact ⟨by rw [E.out];rfl,rfl⟩
   ·have h1':¬ (s[k].toNat:Int)<33:=by omega
    by_cases h2:126<s[k].toNat
    ·have h2':(126:Int)<s[k].toNat:=by omega
     have E:=hide (show bO s.data.toList=false from by unfold bO;rw [kS (bQ hlt) (.inr h2)];rfl);go_wp2_with fail;go_ret;exact ⟨by rw [E.out];rfl,rfl⟩
    ·have h2':¬ (126:Int)<s[k].toNat:=by omega
     have H2:=hide (jI hlt H.out ⟨Nat.le_of_not_lt h1,Nat.le_of_not_lt h2⟩);clear H;go_wp2_with fail;go_round
     case rel=>exact ⟨k+1,hlt,by go_num,H2⟩
     case measure=>simp [intOf];omega
  ·have hlt':¬ (k:Int)<s.size:=by omega
   have E:=hide (om (jy hlt H.out));clear H
   by_cases h0:1≤s.size
   ·have h0':(0:Int)<s.size:=by omega
    by_cases h64:s.size≤64
    ·have h64':(s.size:Int)≤64:=by omega
     go_wp2_with fail;go_ret;refine ⟨?_,rfl⟩;unfold bO;rw [E.out,hl2,decide_eq_true h0,decide_eq_true h64];rfl
    ·have h64':¬ (s.size:Int)≤64:=by omega
     go_wp2_with fail;go_ret;refine ⟨?_,rfl⟩;unfold bO;rw [E.out,hl2,decide_eq_false h64,Bool.and_false];rfl
   ·have h0':¬ (0:Int)<s.size:=by omega
    go_wp2_with fail;go_ret;refine ⟨?_,rfl⟩;unfold bO;rw [hl2,decide_eq_false h0,Bool.and_false,Bool.false_and];rfl
theorem qB (n:Int) (w:World):Calls Tryz.prog 216 #[.int .i64 n] w (fun e w'=>e=.returned (.bool (aC n))∧w'=w):=by
 by_cases h1:0≤n
 ·by_cases h2:n≤15
  ·have E:=hide (show aC n=true from by unfold aC;rw [decide_eq_true h1,decide_eq_true h2];rfl)
   have h3:n<16:=by omega
   go_enter Tryz.func216,Tryz.ntmps216;go_wp2_with fail;go_ret;exact ⟨by rw [E.out];rfl,rfl⟩
  ·have E:=hide (show aC n=false from by unfold aC;rw [decide_eq_false h2,Bool.and_false])
   have h3:¬ n<16:=by omega
   go_enter Tryz.func216,Tryz.ntmps216;go_wp2_with fail;go_ret;exact ⟨by rw [E.out];rfl,rfl⟩
 ·have E:=hide (show aC n=false from by unfold aC;rw [decide_eq_false h1,Bool.false_and])
  go_enter Tryz.func216,Tryz.ntmps216;go_wp2_with fail;go_ret;exact ⟨by rw [E.out];rfl,rfl⟩
theorem nP (n:Int) (w:World):Calls Tryz.prog 152 #[.int .i64 n] w (fun e w'=>e=.returned (.bool (aC n))∧w'=w):=by
 by_cases h1:0≤n
 ·by_cases h2:n≤15
  ·have E:=hide (show aC n=true from by unfold aC;rw [decide_eq_true h1,decide_eq_true h2];rfl)
   go_enter Tryz.func152,Tryz.ntmps152;go_wp2_with fail;go_ret;exact ⟨by rw [E.out];rfl,rfl⟩
  ·have E:=hide (show aC n=false from by unfold aC;rw [decide_eq_false h2,Bool.and_false])
   go_enter Tryz.func152,Tryz.ntmps152;go_wp2_with fail;go_ret;exact ⟨by rw [E.out];rfl,rfl⟩
 ·have E:=hide (show aC n=false from by unfold aC;rw [decide_eq_false h1,Bool.false_and])
  go_enter Tryz.func152,Tryz.ntmps152;go_wp2_with fail;go_ret;exact ⟨by rw [E.out];rfl,rfl⟩
theorem JG (a b c:Int) (w:World):Calls Tryz.prog 225 #[.int .u32 a,.int .u32 b,.int .u32 c] w (fun e w'=>e=.returned (.bool (aQ a b c))∧w'=w):=by
 by_cases h1:1024≤a
 ·by_cases h2:a≤b
  ·by_cases h3:b≤c
   ·by_cases h4:c≤8192
    ·have E:=hide (show aQ a b c=true from by unfold aQ;rw [decide_eq_true h1,decide_eq_true h2,decide_eq_true h3,decide_eq_true h4];rfl)
     go_enter Tryz.func225,Tryz.ntmps225;go_wp2_with fail;go_ret;exact ⟨by rw [E.out];rfl,rfl⟩
    ·have E:=hide (show aQ a b c=false from by unfold aQ;rw [decide_eq_false h4,Bool.and_false])
     go_enter Tryz.func225,Tryz.ntmps225;go_wp2_with fail;go_ret;exact ⟨by rw [E.out];rfl,rfl⟩
   ·have E:=hide (show aQ a b c=false from by unfold aQ;rw [decide_eq_false h3,Bool.and_false,Bool.false_and])
    go_enter Tryz.func225,Tryz.ntmps225;go_wp2_with fail;go_ret;exact ⟨by rw [E.out];rfl,rfl⟩
  ·have E:=hide (show aQ a b c=false from by unfold aQ;rw [decide_eq_false h2,Bool.and_false,Bool.false_and,Bool.false_and])
   go_enter Tryz.func225,Tryz.ntmps225;go_wp2_with fail;go_ret;exact ⟨by rw [E.out];rfl,rfl⟩
 ·have E:=hide (show aQ a b c=false from by unfold aQ;rw [decide_eq_false h1,Bool.false_and,Bool.false_and,Bool.false_and])
  go_enter Tryz.func225,Tryz.ntmps225;go_wp2_with fail;go_ret;exact ⟨by rw [E.out];rfl,rfl⟩
theorem DT (a b c:Int) (w:World):Calls Tryz.prog 231 #[.int .i64 a,.int .i64 b,.int .i64 c] w (fun e w'=>e=.returned (.bool (aQ a b c))∧w'=w):=by
 by_cases h1:1024≤a
 ·by_cases h2:a≤b
  ·by_cases h3:b≤c
   ·by_cases h4:c≤8192
    ·have E:=hide (show aQ a b c=true from by unfold aQ;rw [decide_eq_true h1,decide_eq_true h2,decide_eq_true h3,decide_eq_true h4];rfl)
     go_enter Tryz.func231,Tryz.ntmps231;go_wp2_with fail;go_ret;exact ⟨by rw [E.out];rfl,rfl⟩
    ·have E:=hide (show aQ a b c=false from by unfold aQ;rw [decide_eq_false h4,Bool.and_false])
     go_enter Tryz.func231,Tryz.ntmps231;go_wp2_with fail;go_ret;exact ⟨by rw [E.out];rfl,rfl⟩
   ·have E:=hide (show aQ a b c=false from by unfold aQ;rw [decide_eq_false h3,Bool.and_false,Bool.false_and])
    go_enter Tryz.func231,Tryz.ntmps231;go_wp2_with fail;go_ret;exact ⟨by rw [E.out];rfl,rfl⟩
  ·have E:=hide (show aQ a b c=false from by unfold aQ;rw [decide_eq_false h2,Bool.and_false,Bool.false_and,Bool.false_and])
   go_enter Tryz.func231,Tryz.ntmps231;go_wp2_with fail;go_ret;exact ⟨by rw [E.out];rfl,rfl⟩
 ·have E:=hide (show aQ a b c=false from by unfold aQ;rw [decide_eq_false h1,Bool.false_and,Bool.false_and,Bool.false_and])
  go_enter Tryz.func231,Tryz.ntmps231;go_wp2_with fail;go_ret;exact ⟨by rw [E.out];rfl,rfl⟩
end
def bV:ByteArray:=⟨#[83,83,72,45,50,46,48,45]⟩
theorem xU (cm:List UInt8):bR [] cm=[]:=by unfold bR;rw [if_pos (.inl rfl)]
theorem tF {sw cm:List UInt8} (h:iR sw=true):bR sw cm=[]:=by unfold bR;rw [if_pos (.inr h)]
theorem FC {sw cm:List UInt8} (h0:sw≠[]) (h:iR sw=false):bR sw cm=if fU (tX++sw++qw cm)=true then tX++sw++qw cm else []:=by
 unfold bR;rw [if_neg (by rw [h];rintro (e | e);exact h0 e;cases e)]
def j4 (sw cm:List UInt8):Int:=if bR sw cm=[] then 1 else 0
theorem wN (s:ByteArray):(bV++s).data.toList=tX++s.data.toList++qw []:=by
 rw [data_append,List.append_assoc];unfold qw;rw [if_pos rfl,List.append_nil];rfl
theorem xJ {s t:ByteArray} (h:t≠⟨#[]⟩):(bV++s++((⟨#[32]⟩:ByteArray)++t)).data.toList=tX++s.data.toList++qw t.data.toList:=by
 rw [data_append,data_append,data_append];unfold qw;rw [if_neg (fun e=>h (toList_inj e))];rfl
section
variable {w : World}
theorem EF (n:Nat) (w:World) (hn:n<256):Calls Tryz.prog 322 #[.int .u8 n] w fun e w'=>e=.returned (.bool (decide (32≤n) && decide (n≤126)))∧w'=w:=by
 go_enter Tryz.func322,Tryz.ntmps322;go_wp2
 all_goals (go_ret;refine ⟨fQ ?_,rfl⟩;(first | (simp_all;done) | (simp_all;omega) | (rw [Bool.eq_iff_iff];simp_all;done) | (rw [Bool.eq_iff_iff];simp_all;omega)))
theorem Cw (s:ByteArray) (hs:s.size≤9223372036854775807) (w:World):Calls Tryz.prog 303 #[.string s] w (fun e w'=>e=.returned (.bool (fU s.data.toList))∧w'=w):=by
 have hl2:s.data.toList.length=s.size:=rfl;go_enter Tryz.func303,Tryz.ntmps303;go_wp2_with fail
 go_loop [6] (fun i=>∃k:Nat,k≤s.size∧i=.int .i64 k∧Hid (∀c∈s.data.toList.take k,32≤c.toNat∧c.toNat≤126)) (fun i=>s.size - (intOf i).toNat)
 case atStart=>exact ⟨0,Nat.zero_le _,rfl,hide (by simp)⟩
 case round =>
  obtain ⟨k,hk,rfl,H⟩:=hrel
  by_cases hlt:k<s.size
  ·have HP:=hide (EF s[k].toNat w (by have:=s[k].toNat_lt;omega))
   by_cases h1:32≤s[k].toNat∧s[k].toNat≤126
   ·rw [decide_eq_true h1.1,decide_eq_true h1.2,Bool.and_self] at HP
    have H2:=hide (jI hlt H.out h1);clear H h1;go_wp2_with (go_at_call 322;refine HP.out.mono ?_;rintro e w1 ⟨rfl,rfl⟩);go_round
    case rel=>exact ⟨k+1,hlt,by go_num,H2⟩
    case measure=>simp [intOf];omega
   ·have h2:s[k].toNat<32∨126<s[k].toNat:=by omega
    have h3:(decide (32≤s[k].toNat) && decide (s[k].toNat≤126))=false:=by
     rw [Bool.and_eq_false_iff,decide_eq_false_iff_not,decide_eq_false_iff_not];omega
    rw [h3] at HP;have E:=hide (show fU s.data.toList=false from by unfold fU;rw [kS (bQ hlt) h2];rfl);clear h1 h2 h3 H;go_wp2_with (go_at_call 322;refine HP.out.mono ?_;rintro e w1 ⟨rfl,rfl⟩);go_ret;exact ⟨by rw [E.out];rfl,rfl⟩
  ·have E:=hide (om (jy hlt H.out))
   clear H
   by_cases h64:s.size≤253
   ·have h64':(s.size:Int)≤253:=by omega
    go_wp2_with fail;go_ret;refine ⟨?_,rfl⟩;unfold fU;rw [E.out,hl2,decide_eq_true h64];rfl
   ·have h64':¬ (s.size:Int)≤253:=by omega
    go_wp2_with fail;go_ret;refine ⟨?_,rfl⟩;unfold fU;rw [E.out,hl2,decide_eq_false h64];rfl
theorem pF (s:ByteArray) (hs:s.size≤9223372036854775807) (w:World):Calls Tryz.prog 275 #[.string s] w (fun e w'=>e=.returned (.bool (vB 32 126 s.data.toList))∧w'=w):=by
 go_enter Tryz.func275,Tryz.ntmps275;go_wp2_with fail
 go_loop [3] (fun i=>∃k:Nat,k≤s.size∧i=.int .i64 k∧Hid (∀c∈s.data.toList.take k,32≤c.toNat∧c.toNat≤126)) (fun i=>s.size - (intOf i).toNat)
 case atStart=>exact ⟨0,Nat.zero_le _,rfl,hide (by simp)⟩
 case round =>
  obtain ⟨k,hk,rfl,H⟩:=hrel
  by_cases hlt:k<s.size
  ·have hlt':(k:Int)<s.size:=by omega
   by_cases h1:s[k].toNat<32
   ·have h1':(s[k].toNat:Int)<32:=by omega
    have E:=hide (kS (a:=32) (b:=126) (bQ hlt) (.inl h1));go_wp2_with fail;go_ret;exact ⟨by rw [E.out];rfl,rfl⟩
   ·have h1':¬ (s[k].toNat:Int)<32:=by omega
    by_cases h2:126<s[k].toNat
    ·have h2':(126:Int)<s[k].toNat:=by omega
     have E:=hide (kS (a:=32) (b:=126) (bQ hlt) (.inr h2));go_wp2_with fail;go_ret;exact ⟨by rw [E.out];rfl,rfl⟩
    ·have h2':¬ (126:Int)<s[k].toNat:=by omega
     have H2:=hide (jI hlt H.out ⟨Nat.le_of_not_lt h1,Nat.le_of_not_lt h2⟩);clear H;go_wp2_with fail;go_round
     case rel=>exact ⟨k+1,hlt,by go_num,H2⟩
     case measure=>simp [intOf];omega
  ·have hlt':¬ (k:Int)<s.size:=by omega
   have E:=hide (om (jy hlt H.out));clear H;go_wp2_with fail;go_ret;exact ⟨by rw [E.out];rfl,rfl⟩
theorem zq (s:ByteArray) (hs:s.size≤9223372036854775807) (w:World):Calls Tryz.prog 274 #[.string s] w (fun e w'=>(∃i:Int,e=.returned (.int .i64 i)∧decide (0≤i)=iR s.data.toList)∧w'=w):=by
 go_enter Tryz.func274,Tryz.ntmps274;go_wp2_with fail
 go_loop [3] (fun i=>∃k:Nat,k≤s.size∧i=.int .i64 k∧Hid (∀c∈s.data.toList.take k,c≠32)) (fun i=>s.size - (intOf i).toNat)
 case atStart=>exact ⟨0,Nat.zero_le _,rfl,hide (by simp)⟩
 case round =>
  obtain ⟨k,hk,rfl,H⟩:=hrel
  by_cases hlt:k<s.size
  ·have hlt':(k:Int)<s.size:=by omega
   by_cases h1:s[k]=32
   ·have h1':((s[k].toNat:Int) == 32)=true:=by rw [h1];rfl
    have E:=hide (show iR s.data.toList=true from by unfold iR;rw [List.contains_iff_mem];exact h1 ▸ bQ hlt);clear h1;go_wp2_with fail;go_ret;exact ⟨⟨k,rfl,by rw [E.out];exact decide_eq_true (by omega)⟩,rfl⟩
   ·have h1':((s[k].toNat:Int) == 32)=false:=by
     rw [beq_eq_false_iff_ne];intro e;have:s[k].toNat=32:=by omega
     exact h1 (UInt8.toNat_inj.1 this)
    have H2:=hide (jI hlt H.out h1);clear H h1;go_wp2_with fail;go_round
    case rel=>exact ⟨k+1,hlt,by go_num,H2⟩
    case measure=>simp [intOf];omega
  ·have hlt':¬ (k:Int)<s.size:=by omega
   have E:=hide (show iR s.data.toList=false from by
    cases hc:iR s.data.toList with
    | false=>rfl
    | true=>exact absurd rfl (jy hlt H.out 32 (List.contains_iff_mem.1 (by unfold iR at hc;exact hc))))
   clear H;go_wp2_with fail;go_ret;exact ⟨⟨-1,rfl,by rw [E.out];rfl⟩,rfl⟩
--BEGIN
theorem iB {L D:List UInt8} (h:bR L D=[]):j4 L D=1:=by unfold j4;rw [if_pos h]
theorem oF {L D:List UInt8} {x:List UInt8} (_h:bR L D=x) (h2:bR L D≠[]):j4 L D=0:=by unfold j4;rw [if_neg h2]
theorem yP {S:ByteArray} (h:8≤S.size):S.data.toList≠[]:=fun e=>by
 have h2:=congrArg List.length e;have h3:S.data.toList.length=S.size:=rfl;simp only [List.length_nil] at h2;omega
theorem su (l:List UInt8):decide (0≤Lib.indexByte l 32)=iR l:=vw l 32
theorem pI {s:ByteArray} (h:s≠⟨#[]⟩):0<s.size:=by
 rcases Nat.eq_zero_or_pos s.size with h9 | h9
 ·exact absurd (toList_inj (List.eq_nil_of_length_eq_zero (show s.data.toList.length=0 from h9))) h
 ·exact h9
theorem Ef {s t:ByteArray} (h:t≠⟨#[]⟩):(bV++s++(⟨#[32]⟩:ByteArray)++t).data.toList=tX++s.data.toList++qw t.data.toList:=by
 rw [←xJ (s:=s) h,data_append,data_append,data_append,data_append,data_append];simp
theorem Gv {sw cm:ByteArray} (h1:sw.size≤1000000) (h2:cm.size≤1000000) (w:World):Calls Tryz.prog 271 #[.string sw,.string cm] w (fun e w'=>e=.returned (.tuple #[.string (bs (bR sw.data.toList cm.data.toList)),.int .i64 (j4 sw.data.toList cm.data.toList)])∧w'=w):=by
 have hsz:(bV++sw).size≤9223372036854775807:=by rw [ByteArray.size_append];have:bV.size=8:=rfl;omega
 have hsz2:(bV++sw++((⟨#[32]⟩:ByteArray)++cm)).size≤9223372036854775807:=by rw [ByteArray.size_append,ByteArray.size_append,ByteArray.size_append];have:bV.size=8:=rfl;have:(⟨#[32]⟩:ByteArray).size=1:=rfl;omega
 obtain ⟨L,hL⟩:∃L,sw.data.toList=L:=⟨_,rfl⟩
 obtain ⟨D,hD⟩:∃D,cm.data.toList=D:=⟨_,rfl⟩
 rw [hL,hD]
 by_cases h0:sw=⟨#[]⟩
 ·subst h0
  have E:=hide (show bR L D=[] from by rw [←hL];exact xU D);have E2:=hide (show j4 L D=1 from iB E.out);have hq1:8+(⟨#[]⟩:ByteArray).size≤9223372036854775807:=by omega
  have hq2:1+cm.size≤9223372036854775807:=by omega
  have hq3:8+(⟨#[]⟩:ByteArray).size+(1+cm.size)≤9223372036854775807:=by omega
  clear hsz hsz2 hL hD h1 h2;go_enter Tryz.func271,Tryz.ntmps271;go_wp2_with (first | fail | fail);go_ret2;exact ⟨by rw [E2.out,E.out];rfl,rfl⟩
 ·have hne:=dU h0
  have hne2:=gq h0;have hn0:L≠[]:=fun e=>h0 (toList_inj (hL.trans e))
  have HC:=hide (fun W=>Tryz.strings_Contains_one sw 32 W);rw [su,hL] at HC
  cases hb:iR L with
  | true =>
   have E:=hide (tF (cm:=D) hb);rw [hb] at HC;clear hb hn0;have E2:=hide (show j4 L D=1 from iB E.out);have hq1:8+sw.size≤9223372036854775807:=by omega
   have hq2:1+cm.size≤9223372036854775807:=by omega
   have hq3:8+sw.size+(1+cm.size)≤9223372036854775807:=by omega
   clear hsz hsz2 hL hD h1 h2;go_enter Tryz.func271,Tryz.ntmps271;go_wp2_with (first | (go_at_call 302;refine (HC.out _).mono ?_;rintro e w1 ⟨rfl,rfl⟩) | fail);go_ret2;exact ⟨by rw [E2.out,E.out];rfl,rfl⟩
  | false =>
   have HV:=hide (FC (cm:=D) hn0 hb);rw [hb] at HC;clear hb hn0
   by_cases hc:cm=⟨#[]⟩
   ·subst hc
    have HD:=hide (show (bV++sw).data.toList=tX++L++qw D from by rw [←hL,← hD];exact wN sw);have hsS:(bV++sw).data.toList.length=(bV++sw).size:=rfl;have HP:=hide (Cw (bV++sw) hsz w)
    cases hLL:fU (bV++sw).data.toList with
    | false =>
     rw [hLL] at HP;unfold bV at HP;have E:=hide (show bR L D=[] from by rw [HV.out,← HD.out,if_neg (by rw [hLL];decide)]);have E2:=hide (show j4 L D=1 from iB E.out);clear HV HD hLL hsS;have hq1:8+sw.size≤9223372036854775807:=by omega
     have hq2:1+(⟨#[]⟩:ByteArray).size≤9223372036854775807:=by omega
     have hq3:8+sw.size+(1+(⟨#[]⟩:ByteArray).size)≤9223372036854775807:=by omega
     clear hsz hsz2 hL hD h1 h2;go_enter Tryz.func271,Tryz.ntmps271;go_wp2_with (first | (go_at_call 302;refine (HC.out _).mono ?_;rintro e w1 ⟨rfl,rfl⟩) | (go_at_call 303;refine HP.out.mono ?_;rintro e w2 ⟨rfl,rfl⟩) | fail);go_ret2;exact ⟨by rw [E2.out,E.out];rfl,rfl⟩
    | true =>
     rw [hLL] at HP;unfold bV at HP;have E:=hide (show bR L D=(bV++sw).data.toList from by rw [HV.out,← HD.out,if_pos hLL]);have hne8:bR L D≠[]:=by rw [E.out];exact yP (by rw [ByteArray.size_append];have:bV.size=8:=rfl;omega)
     have E2:=hide (show j4 L D=0 from oF E.out hne8);clear HV HD hLL hsS hne8;have hq1:8+sw.size≤9223372036854775807:=by omega
     have hq2:1+(⟨#[]⟩:ByteArray).size≤9223372036854775807:=by omega
     have hq3:8+sw.size+(1+(⟨#[]⟩:ByteArray).size)≤9223372036854775807:=by omega
     clear hsz hsz2 hL hD h1 h2;go_enter Tryz.func271,Tryz.ntmps271;go_wp2_with (first | (go_at_call 302;refine (HC.out _).mono ?_;rintro e w1 ⟨rfl,rfl⟩) | (go_at_call 303;refine HP.out.mono ?_;rintro e w2 ⟨rfl,rfl⟩) | fail);go_ret2;exact ⟨by rw [E2.out,E.out];rfl,rfl⟩
   ·have hcn:=dU hc
    have hcn2:=gq hc;have HD:=hide (show (bV++sw++((⟨#[32]⟩:ByteArray)++cm)).data.toList=tX++L++qw D from by rw [←hL,← hD];exact xJ hc);have hsS:(bV++sw++((⟨#[32]⟩:ByteArray)++cm)).data.toList.length=(bV++sw++((⟨#[32]⟩:ByteArray)++cm)).size:=rfl;have HP:=hide (Cw (bV++sw++((⟨#[32]⟩:ByteArray)++cm)) hsz2 w)
    cases hLL:fU (bV++sw++((⟨#[32]⟩:ByteArray)++cm)).data.toList with
    | false =>
     rw [hLL] at HP;unfold bV at HP;have E:=hide (show bR L D=[] from by rw [HV.out,← HD.out,if_neg (by rw [hLL];decide)]);have E2:=hide (show j4 L D=1 from iB E.out);clear HV HD hLL hsS;have hq1:8+sw.size≤9223372036854775807:=by omega
     have hq2:1+cm.size≤9223372036854775807:=by omega
     have hq3:8+sw.size+(1+cm.size)≤9223372036854775807:=by omega
     clear hsz hsz2 hL hD h1 h2;go_enter Tryz.func271,Tryz.ntmps271;go_wp2_with (first | (go_at_call 302;refine (HC.out _).mono ?_;rintro e w1 ⟨rfl,rfl⟩) | (go_at_call 303;refine HP.out.mono ?_;rintro e w2 ⟨rfl,rfl⟩) | fail);go_ret2;exact ⟨by rw [E2.out,E.out];rfl,rfl⟩
    | true =>
     rw [hLL] at HP;unfold bV at HP;have E:=hide (show bR L D=(bV++sw++((⟨#[32]⟩:ByteArray)++cm)).data.toList from by rw [HV.out,← HD.out,if_pos hLL]);have hne8:bR L D≠[]:=by rw [E.out];exact yP (by rw [ByteArray.size_append,ByteArray.size_append,ByteArray.size_append];have:bV.size=8:=rfl;omega)
     have E2:=hide (show j4 L D=0 from oF E.out hne8);clear HV HD hLL hsS hne8;have hq1:8+sw.size≤9223372036854775807:=by omega
     have hq2:1+cm.size≤9223372036854775807:=by omega
     have hq3:8+sw.size+(1+cm.size)≤9223372036854775807:=by omega
     clear hsz hsz2 hL hD h1 h2;go_enter Tryz.func271,Tryz.ntmps271;go_wp2_with (first | (go_at_call 302;refine (HC.out _).mono ?_;rintro e w1 ⟨rfl,rfl⟩) | (go_at_call 303;refine HP.out.mono ?_;rintro e w2 ⟨rfl,rfl⟩) | fail);go_ret2;exact ⟨by rw [E2.out,E.out];rfl,rfl⟩
theorem IU {sw cm:ByteArray} (h1:sw.size≤1000000) (h2:cm.size≤1000000) (w:World):Calls Tryz.prog 227 #[.string sw,.string cm] w (fun e w'=>e=.returned (.tuple #[.string (bs (bR sw.data.toList cm.data.toList)),.bool (decide (j4 sw.data.toList cm.data.toList=0))])∧w'=w):=by
 have hsz:(bV++sw).size≤9223372036854775807:=by rw [ByteArray.size_append];have:bV.size=8:=rfl;omega
 have hsz2:(bV++sw++(⟨#[32]⟩:ByteArray)++cm).size≤9223372036854775807:=by rw [ByteArray.size_append,ByteArray.size_append,ByteArray.size_append];have:bV.size=8:=rfl;have:(⟨#[32]⟩:ByteArray).size=1:=rfl;omega
 obtain ⟨L,hL⟩:∃L,sw.data.toList=L:=⟨_,rfl⟩
 obtain ⟨D,hD⟩:∃D,cm.data.toList=D:=⟨_,rfl⟩
 rw [hL,hD]
 by_cases h0:sw=⟨#[]⟩
 ·subst h0
  have E:=hide (show bR L D=[] from by rw [←hL];exact xU D);have E2:=hide (show decide (j4 L D=0)=false from by rw [iB E.out];rfl)
  by_cases hc:cm=⟨#[]⟩
  ·subst hc
   have hq1:8+(⟨#[]⟩:ByteArray).size≤9223372036854775807:=by omega
   have hq2:8+(⟨#[]⟩:ByteArray).size+1≤9223372036854775807:=by omega
   have hq3:8+(⟨#[]⟩:ByteArray).size+1+(⟨#[]⟩:ByteArray).size≤9223372036854775807:=by omega
   clear hsz hsz2 hL hD h1 h2;go_enter Tryz.func227,Tryz.ntmps227;go_wp2_with (first | (go_at_call 274;refine HC.out.mono ?_;rintro e w1 ⟨⟨i,rfl,hi⟩,rfl⟩;have hi2:¬ 0≤i:=by simpa using hi) | fail);go_ret2;exact ⟨by rw [E2.out,E.out];rfl,rfl⟩
  ·have hcp:(0:Int)<cm.size:=by have:=pI hc;omega
   have hq1:8+(⟨#[]⟩:ByteArray).size≤9223372036854775807:=by omega
   have hq2:8+(⟨#[]⟩:ByteArray).size+1≤9223372036854775807:=by omega
   have hq3:8+(⟨#[]⟩:ByteArray).size+1+cm.size≤9223372036854775807:=by omega
   clear hsz hsz2 hL hD h1 h2;go_enter Tryz.func227,Tryz.ntmps227;go_wp2_with (first | (go_at_call 274;refine HC.out.mono ?_;rintro e w1 ⟨⟨i,rfl,hi⟩,rfl⟩;have hi2:¬ 0≤i:=by simpa using hi) | fail);go_ret2;exact ⟨by rw [E2.out,E.out];rfl,rfl⟩
 ·have hne:=dU h0
  have hne2:=gq h0;have hn0:L≠[]:=fun e=>h0 (toList_inj (hL.trans e))
  have hsp:((sw.size:Int) == 0)=false:=by rw [beq_eq_false_iff_ne];have:=pI h0;omega
  have HC:=hide (zq sw (by omega) w);rw [hL] at HC
  cases hb:iR L with
  | true =>
   have E:=hide (tF (cm:=D) hb);rw [hb] at HC;clear hb hn0;have E2:=hide (show decide (j4 L D=0)=false from by rw [iB E.out];rfl)
   by_cases hc:cm=⟨#[]⟩
   ·subst hc
    have hq1:8+sw.size≤9223372036854775807:=by omega
    have hq2:8+sw.size+1≤9223372036854775807:=by omega
    have hq3:8+sw.size+1+(⟨#[]⟩:ByteArray).size≤9223372036854775807:=by omega
    clear hsz hsz2 hL hD h1 h2;go_enter Tryz.func227,Tryz.ntmps227;go_wp2_with (first | (go_at_call 274;refine HC.out.mono ?_;rintro e w1 ⟨⟨i,rfl,hi⟩,rfl⟩;have hi2:0≤i:=by simpa using hi) | fail);go_ret2;exact ⟨by rw [E2.out,E.out];rfl,rfl⟩
   ·have hcp:(0:Int)<cm.size:=by have:=pI hc;omega
    have hq1:8+sw.size≤9223372036854775807:=by omega
    have hq2:8+sw.size+1≤9223372036854775807:=by omega
    have hq3:8+sw.size+1+cm.size≤9223372036854775807:=by omega
    clear hsz hsz2 hL hD h1 h2;go_enter Tryz.func227,Tryz.ntmps227;go_wp2_with (first | (go_at_call 274;refine HC.out.mono ?_;rintro e w1 ⟨⟨i,rfl,hi⟩,rfl⟩;have hi2:0≤i:=by simpa using hi) | fail);go_ret2;exact ⟨by rw [E2.out,E.out];rfl,rfl⟩
  | false =>
   have HV:=hide (FC (cm:=D) hn0 hb);rw [hb] at HC;clear hb hn0
   by_cases hc:cm=⟨#[]⟩
   ·subst hc
    have HD:=hide (show (bV++sw).data.toList=tX++L++qw D from by rw [←hL,← hD];exact wN sw);have hsS:(bV++sw).data.toList.length=(bV++sw).size:=rfl;have HP:=hide (pF (bV++sw) hsz w)
    cases hp:vB 32 126 (bV++sw).data.toList with
    | false =>
     rw [hp] at HP;unfold bV at HP;have hLL:fU (bV++sw).data.toList=false:=by unfold fU;rw [hp];rfl
     have E:=hide (show bR L D=[] from by rw [HV.out,← HD.out,if_neg (by rw [hLL];decide)]);have E2:=hide (show decide (j4 L D=0)=false from by rw [iB E.out];rfl);clear HV HD hLL hsS hp;have hq1:8+sw.size≤9223372036854775807:=by omega
     have hq2:8+sw.size+1≤9223372036854775807:=by omega
     have hq3:8+sw.size+1+(⟨#[]⟩:ByteArray).size≤9223372036854775807:=by omega
     clear hsz hsz2 hL hD h1 h2;go_enter Tryz.func227,Tryz.ntmps227;go_wp2_with (first | (go_at_call 274;refine HC.out.mono ?_;rintro e w1 ⟨⟨i,rfl,hi⟩,rfl⟩;have hi2:¬ 0≤i:=by simpa using hi) | (go_at_call 275;refine HP.out.mono ?_;rintro e w2 ⟨rfl,rfl⟩) | fail);go_ret2;exact ⟨by rw [E2.out,E.out];rfl,rfl⟩
    | true =>
     rw [hp] at HP;unfold bV at HP
     by_cases h253:(bV++sw).size≤253
     ·have hSz:(bV++sw).size=8+sw.size:=by rw [ByteArray.size_append];rfl
      have h253b:¬ (253:Int)<((8+sw.size:Nat):Int):=by omega
      have h253c:¬ (253:Int)<8+(sw.size:Int):=by omega
      have hLL:fU (bV++sw).data.toList=true:=by unfold fU;rw [hp,hsS,decide_eq_true h253];rfl
      have E:=hide (show bR L D=(bV++sw).data.toList from by rw [HV.out,← HD.out,if_pos hLL]);have hne8:bR L D≠[]:=by rw [E.out];exact yP (by rw [ByteArray.size_append];have:bV.size=8:=rfl;omega)
      have E2:=hide (show decide (j4 L D=0)=true from by rw [oF E.out hne8];rfl);clear HV HD hLL hsS hp h253 hSz hne8;have hq1:8+sw.size≤9223372036854775807:=by omega
      have hq2:8+sw.size+1≤9223372036854775807:=by omega
      have hq3:8+sw.size+1+(⟨#[]⟩:ByteArray).size≤9223372036854775807:=by omega
      clear hsz hsz2 hL hD h1 h2;go_enter Tryz.func227,Tryz.ntmps227;go_wp2_with (first | (go_at_call 274;refine HC.out.mono ?_;rintro e w1 ⟨⟨i,rfl,hi⟩,rfl⟩;have hi2:¬ 0≤i:=by simpa using hi) | (go_at_call 275;refine HP.out.mono ?_;rintro e w2 ⟨rfl,rfl⟩) | fail);go_ret2;exact ⟨by rw [E2.out,E.out];rfl,rfl⟩
     ·have hSz:(bV++sw).size=8+sw.size:=by rw [ByteArray.size_append];rfl
      have h253b:(253:Int)<((8+sw.size:Nat):Int):=by omega
      have h253c:(253:Int)<8+(sw.size:Int):=by omega
      have hLL:fU (bV++sw).data.toList=false:=by unfold fU;rw [hp,hsS,decide_eq_false h253];rfl
      have E:=hide (show bR L D=[] from by rw [HV.out,← HD.out,if_neg (by rw [hLL];decide)]);have E2:=hide (show decide (j4 L D=0)=false from by rw [iB E.out];rfl);clear HV HD hLL hsS hp h253 hSz;have hq1:8+sw.size≤9223372036854775807:=by omega
      have hq2:8+sw.size+1≤9223372036854775807:=by omega
      have hq3:8+sw.size+1+(⟨#[]⟩:ByteArray).size≤9223372036854775807:=by omega
      clear hsz hsz2 hL hD h1 h2;go_enter Tryz.func227,Tryz.ntmps227;go_wp2_with (first | (go_at_call 274;refine HC.out.mono ?_;rintro e w1 ⟨⟨i,rfl,hi⟩,rfl⟩;have hi2:¬ 0≤i:=by simpa using hi) | (go_at_call 275;refine HP.out.mono ?_;rintro e w2 ⟨rfl,rfl⟩) | fail);go_ret2;exact ⟨by rw [E2.out,E.out];rfl,rfl⟩
   ·have hcp:(0:Int)<cm.size:=by have:=pI hc;omega
    have HD:=hide (show (bV++sw++(⟨#[32]⟩:ByteArray)++cm).data.toList=tX++L++qw D from by rw [←hL,← hD];exact Ef hc);have hsS:(bV++sw++(⟨#[32]⟩:ByteArray)++cm).data.toList.length=(bV++sw++(⟨#[32]⟩:ByteArray)++cm).size:=rfl;have HP:=hide (pF (bV++sw++(⟨#[32]⟩:ByteArray)++cm) hsz2 w)
    cases hp:vB 32 126 (bV++sw++(⟨#[32]⟩:ByteArray)++cm).data.toList with
    | false =>
     rw [hp] at HP;unfold bV at HP;have hLL:fU (bV++sw++(⟨#[32]⟩:ByteArray)++cm).data.toList=false:=by unfold fU;rw [hp];rfl
     have E:=hide (show bR L D=[] from by rw [HV.out,← HD.out,if_neg (by rw [hLL];decide)]);have E2:=hide (show decide (j4 L D=0)=false from by rw [iB E.out];rfl);clear HV HD hLL hsS hp;have hq1:8+sw.size≤9223372036854775807:=by omega
     have hq2:8+sw.size+1≤9223372036854775807:=by omega
     have hq3:8+sw.size+1+cm.size≤9223372036854775807:=by omega
     clear hsz hsz2 hL hD h1 h2;go_enter Tryz.func227,Tryz.ntmps227;go_wp2_with (first | (go_at_call 274;refine HC.out.mono ?_;rintro e w1 ⟨⟨i,rfl,hi⟩,rfl⟩;have hi2:¬ 0≤i:=by simpa using hi) | (go_at_call 275;refine HP.out.mono ?_;rintro e w2 ⟨rfl,rfl⟩) | fail);go_ret2;exact ⟨by rw [E2.out,E.out];rfl,rfl⟩
    | true =>
     rw [hp] at HP;unfold bV at HP
     by_cases h253:(bV++sw++(⟨#[32]⟩:ByteArray)++cm).size≤253
     ·have hSz:(bV++sw++(⟨#[32]⟩:ByteArray)++cm).size=8+sw.size+1+cm.size:=by rw [ByteArray.size_append,ByteArray.size_append,ByteArray.size_append];rfl
      have h253b:¬ (253:Int)<((8+sw.size+1+cm.size:Nat):Int):=by omega
      have h253c:¬ (253:Int)<8+(sw.size:Int)+1+(cm.size:Int):=by omega
      have hLL:fU (bV++sw++(⟨#[32]⟩:ByteArray)++cm).data.toList=true:=by unfold fU;rw [hp,hsS,decide_eq_true h253];rfl
      have E:=hide (show bR L D=(bV++sw++(⟨#[32]⟩:ByteArray)++cm).data.toList from by rw [HV.out,← HD.out,if_pos hLL]);have hne8:bR L D≠[]:=by rw [E.out];exact yP (by rw [ByteArray.size_append,ByteArray.size_append,ByteArray.size_append];have:bV.size=8:=rfl;omega)
      have E2:=hide (show decide (j4 L D=0)=true from by rw [oF E.out hne8];rfl);clear HV HD hLL hsS hp h253 hSz hne8;have hq1:8+sw.size≤9223372036854775807:=by omega
      have hq2:8+sw.size+1≤9223372036854775807:=by omega
      have hq3:8+sw.size+1+cm.size≤9223372036854775807:=by omega
      clear hsz hsz2 hL hD h1 h2;go_enter Tryz.func227,Tryz.ntmps227;go_wp2_with (first | (go_at_call 274;refine HC.out.mono ?_;rintro e w1 ⟨⟨i,rfl,hi⟩,rfl⟩;have hi2:¬ 0≤i:=by simpa using hi) | (go_at_call 275;refine HP.out.mono ?_;rintro e w2 ⟨rfl,rfl⟩) | fail);go_ret2;exact ⟨by rw [E2.out,E.out];rfl,rfl⟩
     ·have hSz:(bV++sw++(⟨#[32]⟩:ByteArray)++cm).size=8+sw.size+1+cm.size:=by rw [ByteArray.size_append,ByteArray.size_append,ByteArray.size_append];rfl
      have h253b:(253:Int)<((8+sw.size+1+cm.size:Nat):Int):=by omega
      have h253c:(253:Int)<8+(sw.size:Int)+1+(cm.size:Int):=by omega
      have hLL:fU (bV++sw++(⟨#[32]⟩:ByteArray)++cm).data.toList=false:=by unfold fU;rw [hp,hsS,decide_eq_false h253];rfl
      have E:=hide (show bR L D=[] from by rw [HV.out,← HD.out,if_neg (by rw [hLL];decide)]);have E2:=hide (show decide (j4 L D=0)=false from by rw [iB E.out];rfl);clear HV HD hLL hsS hp h253 hSz;have hq1:8+sw.size≤9223372036854775807:=by omega
      have hq2:8+sw.size+1≤9223372036854775807:=by omega
      have hq3:8+sw.size+1+cm.size≤9223372036854775807:=by omega
      clear hsz hsz2 hL hD h1 h2;go_enter Tryz.func227,Tryz.ntmps227;go_wp2_with (first | (go_at_call 274;refine HC.out.mono ?_;rintro e w1 ⟨⟨i,rfl,hi⟩,rfl⟩;have hi2:¬ 0≤i:=by simpa using hi) | (go_at_call 275;refine HP.out.mono ?_;rintro e w2 ⟨rfl,rfl⟩) | fail);go_ret2;exact ⟨by rw [E2.out,E.out];rfl,rfl⟩
--END
end
end Go.Proofs.YtnhekaepgpbijaaGreatDoor
