/- Several of my texts in one: BaseG, AsQ, As, OrdE, Mkr. -/
import Derived.Test.YtnhekaepgpbijaaGreatDoorRows
import Derived.WalkKit
import Derived.WalkSpells
import Derived.WalkLawsBesides
import Derived.Below
import Derived.Laws.OwnMore
import Derived.Laws.Rows
import Derived.Deep.AppendLies
import Derived.Deep.Draws
import Derived.Deep.LoopGhost
import Derived.Deep.QuietTactic
import Derived.BigQuiet
import Derived.BigGuardPart
import Derived.Maps.AppendAt
import Derived.RegionTactic
import Derived.OwnWalk
import Derived.Lib.Hide
import Derived.Outline
import Derived.ShutString
import Derived.Lib.Strings
import Derived.Laws.BytesArg
import Derived.Laws.BitsAllLaws
import Derived.LaidEql
import Derived.Stop.Asserts
import Derived.RowKitTokens
import Derived.OrdersHeld
import Derived.StillTail
import Derived.Deep.RegionHeld
set_option linter.unusedVariables false
set_option linter.unusedSimpArgs false
set_option maxHeartbeats 40000000
set_option maxRecDepth 100000
namespace Go.Proofs.YtnhekaepgpbijaaGreatDoor
open Go.RowKit
theorem ax (a:Addr) (n:Nat):(a.add n).block=a.block:=by unfold Addr.add;split <;> rfl
theorem nQ (a:Addr) (i j:Nat):(a.add i).add j=a.add (i+j):=by
 unfold Addr.add
 by_cases hi:i=0 <;> by_cases hj:j=0 <;> simp [hi,hj,Nat.add_assoc]

def Reads (w:World) (B size:Nat) (A:Option Addr) (n:Nat) (xs:List Value):Prop :=
 xs.length=n*size∧(0<n→∃ad,A=some ad∧ad.block<B∧∀j u,xs[j]?=some u→w.cell? (ad.add j)=some u)

section
variable {w w' : World} {B B' size n : Nat} {A : Option Addr} {xs : List Value}
theorem Reads.none_:Reads w B size A 0 []:=⟨by simp,fun h=>absurd h (by omega)⟩
theorem Reads.at_ {k:Nat} (h:Reads w B 1 A n xs) (hk:k<n):∃ad u,A=some ad∧ad.block<B∧xs[k]?=some u∧w.cell? (ad.add k)=some u:=by
 obtain ⟨ad,e,hb,hc⟩:=h.2 (by omega);have hl:k<xs.length:=by have:=h.1;omega
 exact ⟨ad,xs[k],e,hb,List.getElem?_eq_getElem hl,hc k _ (List.getElem?_eq_getElem hl)⟩
theorem Reads.keep (h:Reads w B size A n xs) (hk:∀p:Addr,p.block<B→w'.cell? p=w.cell? p):Reads w' B size A n xs :=
 ⟨h.1,fun hn=>by
  obtain ⟨ad,e,hb,hc⟩:=h.2 hn
  exact ⟨ad,e,hb,fun j u hu=>(hk _ (by rw [ax];exact hb)).trans (hc j u hu)⟩⟩
theorem Reads.more (h:Reads w B size A n xs) (hB:B≤B'):Reads w B' size A n xs :=
 ⟨h.1,fun hn=>by
  obtain ⟨ad,e,hb,hc⟩:=h.2 hn
  exact ⟨ad,e,by omega,hc⟩⟩
theorem Reads.below (h:Reads w B size A n xs) (hb:Below B w w'):Reads w' B size A n xs:=h.keep fun _ hp=>hb.cell hp
theorem Reads.drew (h:Reads w B size A n xs):Reads w.drew B size A n xs:=h
theorem Reads.drewN (h:Reads w B size A n xs) (k:Nat):Reads (w.drewN k) B size A n xs:=h
theorem Reads.alloc (h:Reads w B size A n xs) (hB:B≤w.heap.size) (o:Obj):Reads (w.alloc o) B size A n xs:=h.keep fun p hp=>World.cell?_alloc_lt w o p (by omega)
theorem Reads.setCell (h:Reads w B size A n xs) {p:Addr} (hB:B≤p.block) (u:Value):Reads (w.setCell p u) B size A n xs :=
 h.keep fun q hq=>World.cell?_setCell_other w p q u (fun e=>by subst e;omega)
theorem Reads.grown (h:Reads w B size A n xs) {row:Option Nat} (hg:w.grownBy w' row) (hB:B≤w.heap.size) (hr:∀g,row=some g→B≤g):Reads w' B size A n xs :=
 h.keep fun p hp=>World.cell?_of_block (hg.block p.block (by omega) (fun e=>by have:=hr _ e.symm;omega))
theorem Reads.cut (h:Reads w B size A n xs) {k cap:Nat} (hk:k≤n) (hc:n≤cap) :
  Reads w B size (if cap=k then A else A.map (·.add (k*size))) (n - k) (xs.drop (k*size)):=by
 refine ⟨by rw [List.length_drop,h.1,Nat.sub_mul],fun hn=>?_⟩;obtain ⟨ad,rfl,hb,hcell⟩:=h.2 (by omega);rw [if_neg (by omega)];refine ⟨ad.add (k*size),rfl,by rw [ax];exact hb,fun j u hu=>?_⟩;rw [nQ];exact hcell _ u (by rw [←hu,List.getElem?_drop])
theorem Reads.of_own {base:Nat} {e:TypeId} {c:Nat} (h:w.ownsRow base e size (.slice A n c) n xs):Reads w w.heap.size size A n xs:=by
 refine ⟨h.1,fun hn=>?_⟩;obtain ⟨g,cap,hv,_,hlt⟩:=h.form hn;have hA:A=some ⟨g,0,none⟩:=by injection hv
 subst hA;exact ⟨_,rfl,hlt,h.cells (g:=g) rfl⟩
end
def Blk (w:World) (g:Nat) (t:TypeId) (cs:Array Value):Prop:=w.heap[g]?=some (.cells cs t (0,0))

section
variable {w w' : World} {g : Nat} {t : TypeId} {cs : Array Value}
theorem Blk.lt (h:Blk w g t cs):g<w.heap.size:=by
 rcases Nat.lt_or_ge g w.heap.size with hlt | hge
 ·exact hlt
 ·unfold Blk at h;rw [Array.getElem?_eq_none hge] at h;cases h
theorem Blk.cell (h:Blk w g t cs) (i:Nat):w.cell? ⟨g,i,none⟩=cs[i]?:=cell_of_row w g i cs t (0,0) h
theorem Blk.frozen (h:Blk w g t cs) (i:Nat):w.frozen? ⟨g,i,none⟩=false:=by
 unfold Blk at h;simp [World.frozen?,h]
theorem Blk.new (w:World) (t:TypeId) (cs:Array Value):Blk (w.alloc (.cells cs t)) w.heap.size t cs:=heap_alloc_new w _
theorem Blk.drew (h:Blk w g t cs):Blk w.drew g t cs:=h
theorem Blk.drewN (h:Blk w g t cs) (n:Nat):Blk (w.drewN n) g t cs:=h
theorem Blk.alloc (h:Blk w g t cs) (o:Obj):Blk (w.alloc o) g t cs:=(Below.heap_alloc w o g h.lt).trans h
theorem Blk.set_ (h:Blk w g t cs) (i:Nat) (u:Value):Blk (w.setCell ⟨g,i,none⟩ u) g t (cs.setIfInBounds i u):=by
 unfold Blk at h ⊢;simp [World.setCell,Array.getElem?_modify,h]
theorem Blk.far (h:Blk w g t cs) {p:Addr} (hp:g≠p.block) (u:Value):Blk (w.setCell p u) g t cs:=(Below.heap_setCell w p u g hp).trans h
theorem Blk.below {B:Nat} (h:Blk w g t cs) (hb:Below B w w') (hg:g<B):Blk w' g t cs:=(hb.block g hg).trans h
theorem Blk.grown {row:Option Nat} (h:Blk w g t cs) (hb:w.grownBy w' row) (hg:some g≠row):Blk w' g t cs:=(hb.block g h.lt hg).trans h
theorem Blk.ne_ {g':Nat} {t':TypeId} {cs':Array Value} (h:Blk w g t cs) (h':Blk w g' t' cs') (hne:t≠t'):g≠g':=by
 rintro rfl;unfold Blk at h h';rw [h] at h';injection h' with h';injection h' with _ ht;exact hne ht
theorem aS {base:Nat} {e:TypeId} {size n:Nat} {v:Value} {xs:List Value} (h:w.ownsRow base e size v n xs) (hg:Blk w g t cs) (hne:e≠t):v.ownBlock≠some g:=by
 rcases h.2 with ⟨rfl,_⟩ | ⟨g',cap,cur,rfl,_,hh,_⟩
 ·simp [Value.ownBlock]
 ·intro he
  have:g'=g:=by simpa [Value.ownBlock] using he
  subst this;exact Blk.ne_ (t:=e) hh hg hne rfl
end
section
variable {P : Program} (w : World)

theorem oz (base:Nat) (t ty e:TypeId) (i:TypeInfo) (size:Nat) (ht:P.underlying t=some (.slice e)) (hi:P.info? e=some i)
  (v:Value) (n:Nat) (xs:List Value) (hown:w.ownsRow base e size v n xs) (c:Nat):(Builtin.append_ #[t,t] ty #[v,.slice none 0 c]).run P w=.ok v w:=by
 rcases hown.2 with ⟨rfl,rfl⟩ | ⟨g,cap,cur,rfl,_,_,hnc,_⟩
 ·simp [Builtin.append_,run_underlying ht,sizeOf,typeInfo,hi,Builtin.lenOf,Builtin.firstCells]
 ·simp [Builtin.append_,run_underlying ht,sizeOf,typeInfo,hi,Builtin.lenOf,Builtin.firstCells,hnc,storeCells]

theorem um (base:Nat) (t ty e:TypeId) (i:TypeInfo) (z:Value) (size bytes:Nat) (ht:P.underlying t=some (.slice e)) (hi:P.info? e=some i) (hz:i.zero=some z)
  (hsize:i.size=size) (hby:i.bytes=bytes) (hzs:z.cells.size=size) (hsz:0<size)
  (v:Value) (n:Nat) (xs:List Value) (hown:w.ownsRow base e size v n xs)
  (B:Nat) (A:Option Addr) (m c:Nat) (news:List Value) (hr:Reads w B size A m news) (h1:∀u∈news,u.oneCell'=true)
  (h63:n+m≤maxLen) (hbytes:(n+m)*bytes≤140737488355328) (hbase:base≤w.heap.size) :
  ∃v' w',(Builtin.append_ #[t,t] ty #[v,.slice A m c]).run P w=.ok v' w'∧w'.ownsRow base e size v' (n+m) (xs++news)∧w.grownBy w' v.ownBlock ∧
   (v'.ownBlock=v.ownBlock∨v'.ownBlock=some w.heap.size):=by
 rcases A with _ | ad
 ·have hm:m=0:=by
   rcases Nat.eq_zero_or_pos m with h0 | h0
   ·exact h0
   ·obtain ⟨ad,h,_⟩:=hr.2 h0
    cases h
  subst hm;have hn:news=[]:=List.eq_nil_of_length_eq_zero (by simpa using hr.1);subst hn;exact ⟨v,w,oz w base t ty e i size ht hi v n xs hown c,by simpa using hown,World.grownBy.refl w _,.inl rfl⟩
 ·have hcells:∀j u,news[j]?=some u→w.cell? (ad.add j)=some u:=by
   intro j u hu;rcases Nat.eq_zero_or_pos m with h0 | h0
   ·subst h0
    have hn:news=[]:=List.eq_nil_of_length_eq_zero (by simpa using hr.1);subst hn;simp at hu
   ·obtain ⟨ad',h,_,hc⟩:=hr.2 h0
    injection h with h;subst h;exact hc j u hu
  obtain ⟨v',w',hrun,h2,h3,_,h5⟩:=run_append_own_at (P:=P) w base t ty e i z size bytes ht hi hz hsize hby hzs hsz v n xs hown ad m c news hr.1 hcells h1 h63 hbytes hbase;exact ⟨v',w',hrun,h2,h3,h5⟩

theorem mW {o:Oper} {a:Act} {K:Act→World→Prop} {Q:Exit→Act→World→Prop} (s x:Operand) (t:TypeId)
  (ho:o.op=.call { callee:=.builtin .append,args:=#[s,x],argTypes:=#[t,t] })
  (base:Nat) (e:TypeId) (i:TypeInfo) (z:Value) (size bytes:Nat) (ht:P.underlying t=some (.slice e)) (hi:P.info? e=some i) (hz:i.zero=some z)
  (hsize:i.size=size) (hby:i.bytes=bytes) (hzs:z.cells.size=size) (hsz:0<size)
  (v:Value) (n:Nat) (xs:List Value) (hs:a.eval s=v) (hown:w.ownsRow base e size v n xs)
  (B:Nat) (A:Option Addr) (m c:Nat) (news:List Value) (hx:a.eval x=.slice A m c) (hr:Reads w B size A m news) (h1:∀u∈news,u.oneCell'=true)
  (h63:n+m≤maxLen) (hbytes:(n+m)*bytes≤140737488355328) (hbase:base≤w.heap.size)
  (h:∀v' w',w'.ownsRow base e size v' (n+m) (xs++news)→w.grownBy w' v.ownBlock→(v'.ownBlock=v.ownBlock∨v'.ownBlock=some w.heap.size)→K (a.put o.dst v') w'):o.wp P a w K Q:=by
 obtain ⟨v',w',hrun,h2,h3,h4⟩:=um (P:=P) w base t o.type e i z size bytes ht hi hz hsize hby hzs hsz v n xs hown B A m c news hr h1 h63 hbytes hbase;unfold Oper.wp execOp;simp only [ho,resolve,invoke,builtin,Sem.run_bind,Sem.run_pure,Result.andThen_ok,List.map_toArray,List.map_cons,List.map_nil,hs,hx,hrun];exact h v' w' h2 h3 h4

theorem aA {ops:Array Oper} {rest:List Oper} {o:Oper} {a:Act} {Q:Exit→Act→World→Prop} (hgd:o.guard=none) (s x:Operand) (t:TypeId)
  (ho:o.op=.call { callee:=.builtin .append,args:=#[s,x],argTypes:=#[t,t] })
  (base:Nat) (e:TypeId) (i:TypeInfo) (z:Value) (size bytes:Nat) (ht:P.underlying t=some (.slice e)) (hi:P.info? e=some i) (hz:i.zero=some z)
  (hsize:i.size=size) (hby:i.bytes=bytes) (hzs:z.cells.size=size) (hsz:0<size)
  (v:Value) (n:Nat) (xs:List Value) (hs:a.eval s=v) (hown:w.ownsRow base e size v n xs)
  (B:Nat) (A:Option Addr) (m c:Nat) (news:List Value) (hx:a.eval x=.slice A m c) (hr:Reads w B size A m news) (h1:∀u∈news,u.oneCell'=true)
  (h63:n+m≤maxLen) (hbytes:(n+m)*bytes≤140737488355328) (hbase:base≤w.heap.size)
  (h:∀v' w',w'.ownsRow base e size v' (n+m) (xs++news)→w.grownBy w' v.ownBlock→(v'.ownBlock=v.ownBlock∨v'.ownBlock=some w.heap.size)→wpList P ops Q rest (a.put o.dst v') w'):wpList P ops Q (o :: rest) a w :=
 wpList_plain hgd fun _ hK=>mW w s x t ho base e i z size bytes ht hi hz hsize hby hzs hsz v n xs hs hown B A m c news hx hr h1 h63 hbytes hbase fun v' w' h2 h3 h4=>hK _ _ (h v' w' h2 h3 h4)

theorem bY {ops:Array Oper} {o:Oper} {a:Act} {K:Act→World→Prop} {Q:Exit→Act→World→Prop} {E:Prop} (hgd:o.guard=none) (s x:Operand) (t:TypeId)
  (ho:o.op=.call { callee:=.builtin .append,args:=#[s,x],argTypes:=#[t,t] })
  (base:Nat) (e:TypeId) (i:TypeInfo) (z:Value) (size bytes:Nat) (ht:P.underlying t=some (.slice e)) (hi:P.info? e=some i) (hz:i.zero=some z)
  (hsize:i.size=size) (hby:i.bytes=bytes) (hzs:z.cells.size=size) (hsz:0<size)
  (v:Value) (n:Nat) (xs:List Value) (hs:a.eval s=v) (hown:w.ownsRow base e size v n xs)
  (B:Nat) (A:Option Addr) (m c:Nat) (news:List Value) (hx:a.eval x=.slice A m c) (hr:Reads w B size A m news) (h1:∀u∈news,u.oneCell'=true)
  (h63:n+m≤maxLen) (hbytes:(n+m)*bytes≤140737488355328) (hbase:base≤w.heap.size)
  (h:∀v' w',w'.ownsRow base e size v' (n+m) (xs++news)→w.grownBy w' v.ownBlock→(v'.ownBlock=v.ownBlock∨v'.ownBlock=some w.heap.size)→K (a.put o.dst v') w') :
  if Region.wanted o (yielded ops a.tmps)=true then Oper.wp P o a w K Q else E:=by
 have hw:Region.wanted o (yielded ops a.tmps)=true:=by simp [Region.wanted,hgd]
 rw [if_pos hw];exact mW w s x t ho base e i z size bytes ht hi hz hsize hby hzs hsz v n xs hs hown B A m c news hx hr h1 h63 hbytes hbase h
end

def Sl (lo:Nat) (w:World) (size:Nat) (A:Option Addr) (n:Nat) (xs:List Value):Prop :=
 xs.length=n*size∧(0<n→∃ad,A=some ad∧lo≤ad.block∧ad.block<w.heap.size∧∀j u,xs[j]?=some u→w.cell? (ad.add j)=some u)
section
variable {w w' : World} {lo lo' size n : Nat} {A : Option Addr} {xs : List Value}
theorem Sl.nil_:Sl lo w size A 0 []:=⟨by simp,fun h=>absurd h (by omega)⟩
theorem Sl.mono (h:Sl lo w size A n xs) (hl:lo'≤lo):Sl lo' w size A n xs :=
 ⟨h.1,fun hn=>let ⟨ad,e,h1,h2,h3⟩:=h.2 hn;⟨ad,e,Nat.le_trans hl h1,h2,h3⟩⟩
theorem Sl.keep (h:Sl lo w size A n xs) (hs:w.heap.size≤w'.heap.size) (hk:∀p:Addr,lo≤p.block→p.block<w.heap.size→w'.cell? p=w.cell? p):Sl lo w' size A n xs :=
 ⟨h.1,fun hn=>let ⟨ad,e,h1,h2,h3⟩:=h.2 hn;⟨ad,e,h1,Nat.lt_of_lt_of_le h2 hs,fun j u hu=>(hk _ (by rw [ax];exact h1) (by rw [ax];exact h2)).trans (h3 j u hu)⟩⟩
theorem Sl.below (h:Sl lo w size A n xs) (hb:Below w.heap.size w w'):Sl lo w' size A n xs:=h.keep hb.size fun _ _ h2=>hb.cell h2
theorem Sl.drewN (h:Sl lo w size A n xs) (k:Nat):Sl lo (w.drewN k) size A n xs:=h
theorem Sl.drew (h:Sl lo w size A n xs):Sl lo w.drew size A n xs:=h
theorem Sl.alloc (h:Sl lo w size A n xs) (o:Obj):Sl lo (w.alloc o) size A n xs:=h.below ((Below.refl _ _).alloc (Nat.le_refl _) o)
theorem Sl.setCell (h:Sl lo w size A n xs) {p:Addr} (hp:p.block<lo) (u:Value):Sl lo (w.setCell p u) size A n xs :=
 h.keep (by simp [World.setCell]) fun q h1 _=>World.cell?_setCell_other w p q u (fun e=>by subst e;omega)
theorem Sl.reads (h:Sl lo w size A n xs):Reads w w.heap.size size A n xs :=
 ⟨h.1,fun hn=>let ⟨ad,e,_,h2,h3⟩:=h.2 hn;⟨ad,e,h2,h3⟩⟩
theorem Sl.of_reads (h:Reads w w.heap.size size A n xs):Sl 0 w size A n xs :=
 ⟨h.1,fun hn=>let ⟨ad,e,h2,h3⟩:=h.2 hn;⟨ad,e,Nat.zero_le _,h2,h3⟩⟩
theorem Sl.at_ {k:Nat} (h:Sl lo w 1 A n xs) (hk:k<n):∃ad u,A=some ad∧lo≤ad.block∧ad.block<w.heap.size∧xs[k]?=some u∧w.cell? (ad.add k)=some u:=by
 obtain ⟨ad,e,h1,h2,hc⟩:=h.2 (by omega);have hl:k<xs.length:=by have:=h.1;omega
 exact ⟨ad,xs[k],e,h1,h2,List.getElem?_eq_getElem hl,hc k _ (List.getElem?_eq_getElem hl)⟩
end
theorem bJ (g j:Nat):(⟨g,0,none⟩:Addr).add j=⟨g,j,none⟩:=by unfold Addr.add;split <;> simp_all
def Strs (lo:Nat) (w:World) (v:Value) (ss:List ByteArray):Prop:=∃A c,v=.slice A ss.length c∧Sl lo w 1 A ss.length (ss.map Value.string)
theorem Strs.below {lo:Nat} {w w':World} {v:Value} {ss:List ByteArray} (h:Strs lo w v ss) (hb:Below w.heap.size w w'):Strs lo w' v ss:=by
 obtain ⟨A,c,e,hr⟩:=h;exact ⟨A,c,e,hr.below hb⟩
theorem Strs.alloc {lo:Nat} {w:World} {v:Value} {ss:List ByteArray} (h:Strs lo w v ss) (o:Obj):Strs lo (w.alloc o) v ss:=h.below ((Below.refl _ _).alloc (Nat.le_refl _) o)
theorem Strs.mono {lo lo':Nat} {w:World} {v:Value} {ss:List ByteArray} (h:Strs lo w v ss) (hl:lo'≤lo):Strs lo' w v ss:=by
 obtain ⟨A,c,e,hr⟩:=h;exact ⟨A,c,e,hr.mono hl⟩
theorem Sl.str {lo:Nat} {w:World} {A:Option Addr} {ss:List ByteArray} {k:Nat} (h:Sl lo w 1 A ss.length (ss.map Value.string)) (hk:k<ss.length) :
  ∃ad,A=some ad∧ad.block<w.heap.size∧w.cell? (ad.add k)=some (.string ss[k]):=by
 obtain ⟨ad,u,hA,_,hb,hu,hc⟩:=h.at_ hk;simp only [List.getElem?_map,List.getElem?_eq_getElem hk,Option.map_some,Option.some.injEq] at hu;subst hu;exact ⟨ad,hA,hb,hc⟩
theorem Blk.strs {lo:Nat} {w:World} {g:Nat} {t:TypeId} {ss:List ByteArray} (h:Blk w g t (ss.map Value.string).toArray) (hl:lo≤g) (c:Nat):Strs lo w (.slice (some ⟨g,0,none⟩) ss.length c) ss:=by
 refine ⟨_,_,rfl,by simp,fun _=>⟨_,rfl,hl,h.lt,fun j u hu=>?_⟩⟩;rw [bJ,h.cell j];simpa using hu
theorem bK (w:World) (t:TypeId) (ss:List ByteArray) (v:Value) (hv:v=.slice (some ⟨w.heap.size,0,none⟩) ss.length ss.length):Strs w.heap.size (w.alloc (.cells (ss.map Value.string).toArray t)) v ss:=by
 subst hv;exact (Blk.new w t _).strs (Nat.le_refl _) _
theorem xK {W w1:World} (hb:Below W.heap.size W w1):(∀b o,b<W.heap.size→w1.cell? ⟨b,o,none⟩=W.cell? ⟨b,o,none⟩)∧(∀b o,b<W.heap.size→w1.frozen? ⟨b,o,none⟩=W.frozen? ⟨b,o,none⟩) :=
 ⟨fun b o h=>hb.cell (p:=⟨b,o,none⟩) h,fun b o h=>hb.frozen (p:=⟨b,o,none⟩) h⟩
theorem hide {p:Prop} (h:p):Hid p:=h
theorem oP {k:IntKind} {a b:Int} (h:a=b):Ending.returned (.int k a)=.returned (.int k b):=by rw [h]
theorem fQ {a b:Bool} (h:a=b):Ending.returned (.bool a)=.returned (.bool b):=by rw [h]
theorem pV {α:Type} {P:α→Prop} {c:Prop} [Decidable c] {a b:α} (ha:P a) (hb:P b):P (if c then a else b):=by split <;> assumption
theorem o8 {w w':World} {B:Nat} {ad:Addr} {i:Nat} {u:Value} (hb:Below B w w') (h:ad.block<B) (hc:w.cell? (ad.add i)=some u):w'.cell? (ad.add i)=some u :=
 (hb.cell (p:=ad.add i) (by rw [ax];exact h)).trans hc
theorem below_drewN {B:Nat} {a w:World} (h:Below B a w) (n:Nat):Below B a (w.drewN n):=⟨h.os,h.tape,h.output,h.size,h.block⟩
def nE (w:World) (os:List Obj):World:=os.foldl World.alloc w
theorem oM (w:World) (os:List Obj):Below w.heap.size w (nE w os):=by
 induction os generalizing w with
 | nil=>exact Below.refl _ _
 | cons o os ih =>
  have h:=ih (w.alloc o);exact ((Below.refl _ _).alloc (Nat.le_refl _) o).trans (h.mono (by simp))
theorem vW (w:World) (os:List Obj) {k:Nat} {o:Obj} (h:os[k]?=some o):(nE w os).heap[w.heap.size+k]?=some o:=by
 induction os generalizing w k with
 | nil=>simp at h
 | cons o' os ih =>
  show (nE (w.alloc o') os).heap[_]?=_
  cases k with
  | zero =>
   have hb:=(oM (w.alloc o') os).block w.heap.size (by simp);simp only [List.getElem?_cons_zero,Option.some.injEq] at h;subst h;rw [Nat.add_zero,hb];exact heap_alloc_new w _
  | succ k =>
   have:=ih (w.alloc o') (k:=k) (by simpa using h);rw [←this];congr 1;simp;omega
theorem lD {w:World} {a:Addr} {i j:Nat} {v:Value} (h:w.cell? (a.add (i+(j+1)))=some v):w.cell? ⟨(a.add i).block,(a.add i).off+(j+1),none⟩=some v:=by
 rw [←nQ] at h;exact h
theorem qL {a b:ByteArray} (h:a.toList=b.toList):a=b:=by
 rw [ByteArray.toList_eq,ByteArray.toList_eq] at h;rw [←Lib.mk_data a,← Lib.mk_data b,h]
theorem dU {a b:ByteArray} (h:a≠b):(a.toList == b.toList)=false:=by
 rw [beq_eq_false_iff_ne];exact fun e=>h (qL e)
theorem sZ {a b:ByteArray} (h:a=b):(a.toList == b.toList)=true:=by rw [h];simp

theorem DZ:(⟨#[]⟩:ByteArray).toList=[]:=ByteArray.toList_eq _
theorem gq {a:ByteArray} (h:a≠⟨#[]⟩):a.toList.isEmpty=false:=by
 have:=dU h;rw [Bool.eq_false_iff];intro e;rw [List.isEmpty_iff] at e;exact h (qL (by rw [e,DZ]))
theorem mo {a b c:World} (h:Below a.heap.size a b) (k:Below b.heap.size b c):Below a.heap.size a c:=h.trans (k.mono h.size)
theorem zV (w:World) (xs:List Int) (n b:Nat) (hn:xs.length=n) (hb:b=w.heap.size) (C:Array Value) (hC:C=(xs.map (Value.int .u8)).toArray) (t:TypeId) :
  (convert 211 9 (.slice (some ⟨b,0,none⟩) n n)).run Tryz.prog (w.alloc (.cells C t))=.ok (.string (strOfNums xs)) (w.alloc (.cells C t)):=by
 subst hb hC;refine run_convert_bytes_arg _ 211 5 Tryz.underlying211 Tryz.underlying5 _ 0 n n xs hn (fun i hi=>?_) 9 Tryz.underlying9;have h:=(Blk.new w t (xs.map (Value.int .u8)).toArray).cell i;rw [Nat.zero_add,h];have hi':i<xs.length:=by omega
 simp [List.getElem?_map,List.getElem?_eq_getElem hi',List.getD]
@[go_sem] theorem Ux (w:World) (b:Nat) (a0:Int) (t:TypeId) (hb:b=w.heap.size) :
  (convert 211 9 (.slice (some ⟨b,0,none⟩) 1 1)).run Tryz.prog (w.alloc (.cells #[.int .u8 a0] t))=.ok (.string (strOfNums [a0])) (w.alloc (.cells #[.int .u8 a0] t)) :=
 zV w [a0] 1 b rfl hb _ rfl t
@[go_sem] theorem Uv (w:World) (b:Nat) (a0 a1 a2 a3:Int) (t:TypeId) (hb:b=w.heap.size) :
  (convert 211 9 (.slice (some ⟨b,0,none⟩) 4 4)).run Tryz.prog (w.alloc (.cells #[.int .u8 a0,.int .u8 a1,.int .u8 a2,.int .u8 a3] t))=.ok (.string (strOfNums [a0,a1,a2,a3])) (w.alloc (.cells #[.int .u8 a0,.int .u8 a1,.int .u8 a2,.int .u8 a3] t)) :=
 zV w [a0,a1,a2,a3] 4 b rfl hb _ rfl t
theorem zG (W:World) (xs:List Int) (n b c:Nat) (hn:xs.length=n) (C:Array Value) (hC:C=(xs.map (Value.int .u8)).toArray) (t:TypeId) (hb:Blk W b t C) :
  (convert 211 9 (.slice (some ⟨b,0,none⟩) n c)).run Tryz.prog W=.ok (.string (strOfNums xs)) W:=by
 subst hC;refine run_convert_bytes_arg _ 211 5 Tryz.underlying211 Tryz.underlying5 _ 0 n c xs hn (fun i hi=>?_) 9 Tryz.underlying9;rw [Nat.zero_add,hb.cell i];have hi':i<xs.length:=by omega
 simp [List.getElem?_map,List.getElem?_eq_getElem hi',List.getD]
@[go_sem] theorem Ug (w:World) (b:Nat) (a0:Int) (t:TypeId) (hb:b=w.heap.size) :
  (convert 211 9 (.slice (some ⟨b,0,none⟩) 1 1)).run Tryz.prog (w.alloc (.cells #[.int .u8 a0] t)).drew=.ok (.string (strOfNums [a0])) (w.alloc (.cells #[.int .u8 a0] t)).drew:=by
 subst hb;exact zG _ [a0] 1 _ 1 rfl _ rfl t (Blk.drew (Blk.new w t _))
@[go_sem] theorem Ud (w:World) (b:Nat) (a0 a1 a2 a3:Int) (t:TypeId) (hb:b=w.heap.size) :
  (convert 211 9 (.slice (some ⟨b,0,none⟩) 4 4)).run Tryz.prog (w.alloc (.cells #[.int .u8 a0,.int .u8 a1,.int .u8 a2,.int .u8 a3] t)).drew=.ok (.string (strOfNums [a0,a1,a2,a3])) (w.alloc (.cells #[.int .u8 a0,.int .u8 a1,.int .u8 a2,.int .u8 a3] t)).drew:=by
 subst hb;exact zG _ [a0,a1,a2,a3] 4 _ 4 rfl _ rfl t (Blk.drew (Blk.new w t _))
@[go_sem] theorem Sj (a:Int):(strOfNums [a]).size=1:=strOfNums_size _
@[go_sem] theorem Si (a b c d:Int):(strOfNums [a,b,c,d]).size=4:=strOfNums_size _
@[go_sem] theorem TK (a b:ByteArray):(a++b).size=a.size+b.size:=ByteArray.size_append
theorem aL {a w:World} {row:Option Nat} (h:a.grownBy w row) (n:Nat):a.grownBy (w.drewN n) row:=⟨h.os,h.tape,h.output,h.size,h.block⟩
theorem gu {a w:World} {row:Option Nat} (h:a.grownBy w row) (o:Obj):a.grownBy (w.alloc o) row :=
 ⟨h.os,h.tape,h.output,Nat.le_trans h.size (by simp),fun i hi hne=>(Below.heap_alloc w o i (Nat.lt_of_lt_of_le hi h.size)).trans (h.block i hi hne)⟩
theorem ag {a w:World} {g:Nat} (h:a.grownBy w (some g)) {p:Addr} (hp:p.block=g∨a.heap.size≤p.block) (u:Value):a.grownBy (w.setCell p u) (some g) :=
 ⟨h.os,h.tape,h.output,by simpa [World.setCell] using h.size,fun i hi hne=>(Below.heap_setCell w p u i (by
  rintro rfl;rcases hp with hp | hp
  ·exact hne (by rw [hp])
  ·omega)).trans (h.block i hi hne)⟩
theorem ai {a w:World} (h:Below a.heap.size a w) (row:Option Nat):a.grownBy w row:=⟨h.os,h.tape,h.output,h.size,fun i hi _=>h.block i hi⟩
theorem aj (w:World) (row:Option Nat):w.grownBy w row:=ai (Below.refl _ _) row
theorem au {a b c:World} {row:Option Nat} (h:a.grownBy b row) (k:b.grownBy c row):a.grownBy c row :=
 ⟨k.os.trans h.os,k.tape.trans h.tape,k.output.trans h.output,Nat.le_trans h.size k.size,fun i hi hn=>(k.block i (Nat.lt_of_lt_of_le hi h.size) hn).trans (h.block i hi hn)⟩
theorem JS {a b:World} (h:Below a.heap.size a b) (o:Obj):Below a.heap.size a (b.alloc o):=h.alloc h.size o
theorem aa {B:Nat} {w w':World} (h:Below B w w':=by (repeat (first | exact Below.refl _ _ | refine below_drewN ?_ _ | refine Below.drew ?_ | refine Below.alloc ?_ (by first | omega | (simp;done) | (simp;omega)) _ | refine Below.setCell ?_ (by first | omega | (simp;done) | (simp;omega)) _ | refine JS ?_ _ | refine mo ?_ (by assumption) | refine Below.trans ?_ (Below.mono (by assumption) (by first | omega | (simp;done) | (simp;omega)))))):Below B w w':=h
theorem data_append (a b:ByteArray):(a++b).data.toList=a.data.toList++b.data.toList:=by simp
theorem El {B g:Nat} {a b c:World} (h:Below B a b) (k:b.grownBy c (some g)) (hB:B≤g) (hb:B≤b.heap.size):Below B a c :=
 h.trans ⟨k.os,k.tape,k.output,k.size,fun i hi=>k.block i (by omega) (by simp;omega)⟩
theorem Blk.only {w w':World} {g g':Nat} {t:TypeId} {cs:Array Value} (h:Blk w g t cs) (k:w.grownBy w' (some g')) (hne:g≠g'):Blk w' g t cs :=
 h.grown k (by simpa using hne)
end Go.Proofs.YtnhekaepgpbijaaGreatDoor
namespace Go.Proofs.YtnhekaepgpbijaaGreatDoor
open Go.RowKit Go.Extern.Stop Go.Stop Go.Extern
theorem qQ (t:Addr) (w:World):(ReflectliteValue.unpack (.iface 264 (.pointer (some t)))).run Tryz.prog w=.ok (.agg #[.pointer (some ⟨9,264,none⟩),.pointer (some ⟨w.heap.size,0,none⟩),.int .u64 150]) (w.alloc (.cells #[.pointer (some t)] 264)):=by kernel_rfl
theorem BX (t:Addr) (w:World):(ReflectliteValue.unpack (.iface 265 (.pointer (some t)))).run Tryz.prog w=.ok (.agg #[.pointer (some ⟨9,265,none⟩),.pointer (some ⟨w.heap.size,0,none⟩),.int .u64 150]) (w.alloc (.cells #[.pointer (some t)] 265)):=by kernel_rfl
theorem DD (t:Addr) (w:World):(ReflectliteValue.unpack (.iface 168 (.pointer (some t)))).run Tryz.prog w=.ok (.agg #[.pointer (some ⟨9,168,none⟩),.pointer (some ⟨w.heap.size,0,none⟩),.int .u64 150]) (w.alloc (.cells #[.pointer (some t)] 168)):=by kernel_rfl
theorem Ez (k:Int) (w:World):(ReflectliteValue.unpack (.iface 43 (.int .i64 k))).run Tryz.prog w=.ok (.agg #[.pointer (some ⟨9,43,none⟩),.pointer (some ⟨w.heap.size,0,none⟩),.int .u64 130]) (w.alloc (.cells #[.int .i64 k] 43)):=by kernel_rfl
theorem Cr (a:Addr) (w:World):(ReflectliteValue.methodAny (ReflectliteValue.valueError "reflectlite.Value.Type" 0) (fun t _ _ _=>ReflectliteType.toType t) #[.agg #[.pointer (some ⟨9,264,none⟩),.pointer (some a),.int .u64 150]]).run Tryz.prog w=.ok (.iface 331 (.agg #[.pointer (some ⟨9,264,none⟩)])) (w):=by kernel_rfl
theorem Mt (a:Addr) (w:World):(ReflectliteValue.methodAny (ReflectliteValue.valueError "reflectlite.Value.Type" 0) (fun t _ _ _=>ReflectliteType.toType t) #[.agg #[.pointer (some ⟨9,265,none⟩),.pointer (some a),.int .u64 150]]).run Tryz.prog w=.ok (.iface 331 (.agg #[.pointer (some ⟨9,265,none⟩)])) (w):=by kernel_rfl
theorem zF (h:Value) (w:World):(Go.method 527 331 (.agg #[h]) "Kind").run Tryz.prog w=.ok (373,h) (w):=by kernel_rfl
theorem yJ (h:Value) (w:World):(Go.method 527 331 (.agg #[h]) "Elem").run Tryz.prog w=.ok (387,.agg #[h]) (w):=by kernel_rfl
theorem yD (h:Value) (w:World):(Go.method 527 331 (.agg #[h]) "Implements").run Tryz.prog w=.ok (388,.agg #[h]) (w):=by kernel_rfl
theorem DU (h:Value) (w:World):(Go.method 527 331 (.agg #[h]) "AssignableTo").run Tryz.prog w=.ok (385,.agg #[h]) (w):=by kernel_rfl
theorem zQ (w:World):((ReflectliteType.abiMethod fun t=>(fun a:Nat=>Value.int IntKind.u8 (a:Int)) <$> Rtype.kind t) #[.pointer (some ⟨9,264,none⟩)]).run Tryz.prog w=.ok (.int .u8 22) (w):=by kernel_rfl
theorem L8 (w:World):((ReflectliteType.abiMethod fun t=>(fun a:Nat=>Value.int IntKind.u8 (a:Int)) <$> Rtype.kind t) #[.pointer (some ⟨9,265,none⟩)]).run Tryz.prog w=.ok (.int .u8 22) (w):=by kernel_rfl
theorem F3 (w:World):((ReflectliteType.abiMethod fun t=>(fun a:Nat=>Value.int IntKind.u8 (a:Int)) <$> Rtype.kind t) #[.pointer (some ⟨9,168,none⟩)]).run Tryz.prog w=.ok (.int .u8 22) (w):=by kernel_rfl
theorem P7 (w:World):((ReflectliteType.abiMethod fun t=>(fun a:Nat=>Value.int IntKind.u8 (a:Int)) <$> Rtype.kind t) #[.pointer (some ⟨9,43,none⟩)]).run Tryz.prog w=.ok (.int .u8 2) (w):=by kernel_rfl
theorem Br (w:World):(ReflectliteType.method ReflectliteType.elem #[.agg #[.pointer (some ⟨9,264,none⟩)]]).run Tryz.prog w=.ok (.iface 331 (.agg #[.pointer (some ⟨9,168,none⟩)])) (w):=by kernel_rfl
theorem Li (w:World):(ReflectliteType.method ReflectliteType.elem #[.agg #[.pointer (some ⟨9,265,none⟩)]]).run Tryz.prog w=.ok (.iface 331 (.agg #[.pointer (some ⟨9,43,none⟩)])) (w):=by kernel_rfl
theorem F4 (w:World):(ReflectliteType.relation "Implements" ReflectliteType.implements_ #[.agg #[.pointer (some ⟨9,168,none⟩)],.iface 331 (.agg #[.pointer (some ⟨9,41,none⟩)])]).run Tryz.prog w=.ok (.bool true) (w):=by kernel_rfl
theorem wJ (v:Value) (w:World):(ReflectliteType.typeOf #[.iface 168 v]).run Tryz.prog w=.ok (.iface 331 (.agg #[.pointer (some ⟨9,168,none⟩)])) (w):=by kernel_rfl
theorem OT (w:World):(ReflectliteType.relation "Implements" ReflectliteType.implements_ #[.agg #[.pointer (some ⟨9,43,none⟩)],.iface 331 (.agg #[.pointer (some ⟨9,41,none⟩)])]).run Tryz.prog w=.ok (.bool true) (w):=by kernel_rfl
theorem vX (v:Value) (w:World):(ReflectliteType.typeOf #[.iface 43 v]).run Tryz.prog w=.ok (.iface 331 (.agg #[.pointer (some ⟨9,43,none⟩)])) (w):=by kernel_rfl
theorem OM (w:World):(ReflectliteType.relation "AssignableTo" ReflectliteType.assignableTo #[.agg #[.pointer (some ⟨9,168,none⟩)],.iface 331 (.agg #[.pointer (some ⟨9,168,none⟩)])]).run Tryz.prog w=.ok (.bool true) (w):=by kernel_rfl
theorem PW (w:World):(ReflectliteType.relation "AssignableTo" ReflectliteType.assignableTo #[.agg #[.pointer (some ⟨9,168,none⟩)],.iface 331 (.agg #[.pointer (some ⟨9,43,none⟩)])]).run Tryz.prog w=.ok (.bool false) (w):=by kernel_rfl
theorem OP (w:World):(ReflectliteType.relation "AssignableTo" ReflectliteType.assignableTo #[.agg #[.pointer (some ⟨9,43,none⟩)],.iface 331 (.agg #[.pointer (some ⟨9,168,none⟩)])]).run Tryz.prog w=.ok (.bool false) (w):=by kernel_rfl
theorem PR (w:World):(ReflectliteType.relation "AssignableTo" ReflectliteType.assignableTo #[.agg #[.pointer (some ⟨9,43,none⟩)],.iface 331 (.agg #[.pointer (some ⟨9,43,none⟩)])]).run Tryz.prog w=.ok (.bool true) (w):=by kernel_rfl
theorem xq (a:Addr) (w:World):(ReflectliteValue.parts (.agg #[.pointer (some ⟨9,264,none⟩),.pointer (some a),.int .u64 150])).run Tryz.prog w=.ok (some (264,a,150)) (w):=by kernel_rfl
theorem ww (a:Addr) (w:World):(ReflectliteValue.parts (.agg #[.pointer (some ⟨9,265,none⟩),.pointer (some a),.int .u64 150])).run Tryz.prog w=.ok (some (265,a,150)) (w):=by kernel_rfl
theorem LU (a:Addr) (w:World):(ReflectliteValue.parts (.agg #[.pointer (some ⟨9,168,none⟩),.pointer (some a),.int .u64 150])).run Tryz.prog w=.ok (some (168,a,150)) (w):=by kernel_rfl
theorem JR (a:Addr) (w:World):(ReflectliteValue.parts (.agg #[.pointer (some ⟨9,168,none⟩),.pointer (some a),.int .u64 406])).run Tryz.prog w=.ok (some (168,a,406)) (w):=by kernel_rfl
theorem MB (a:Addr) (w:World):(ReflectliteValue.parts (.agg #[.pointer (some ⟨9,43,none⟩),.pointer (some a),.int .u64 130])).run Tryz.prog w=.ok (some (43,a,130)) (w):=by kernel_rfl
theorem Jj (a:Addr) (w:World):(ReflectliteValue.parts (.agg #[.pointer (some ⟨9,43,none⟩),.pointer (some a),.int .u64 386])).run Tryz.prog w=.ok (some (43,a,386)) (w):=by kernel_rfl
theorem IE (w:World):(Rtype.elem? 264).run Tryz.prog w=.ok (some 168) (w):=by kernel_rfl
theorem Sw (p:Addr) (w:World):(ReflectliteValue.mk 168 p ReflectliteValue.flagAddr).run Tryz.prog w=.ok (.agg #[.pointer (some ⟨9,168,none⟩),.pointer (some p),.int .u64 406]) (w):=by kernel_rfl
theorem Ib (w:World):(Rtype.directlyAssignable 168 168).run Tryz.prog w=.ok (true) (w):=by kernel_rfl
theorem GL (w:World):(Rtype.elem? 265).run Tryz.prog w=.ok (some 43) (w):=by kernel_rfl
theorem TF (p:Addr) (w:World):(ReflectliteValue.mk 43 p ReflectliteValue.flagAddr).run Tryz.prog w=.ok (.agg #[.pointer (some ⟨9,43,none⟩),.pointer (some p),.int .u64 386]) (w):=by kernel_rfl
theorem Il (w:World):(Rtype.directlyAssignable 43 43).run Tryz.prog w=.ok (true) (w):=by kernel_rfl
theorem rlm (z:Sem Value) (f:TypeId→Addr→Nat→Nat→Sem Value) (v:Value) :
  ReflectliteValue.method z f #[v]=(do match←ReflectliteValue.parts v with | none=>z | some (t,a,fl)=>f t a fl (fl % 32)):=rfl
theorem rls (v x:Value):ReflectliteValue.set #[v,x]=(do
  let (some (dst,a,fl),some (src,b,_)):=(← ReflectliteValue.parts v,← ReflectliteValue.parts x)
   | unsupported (.noEntry "extern/(internal/reflectlite.Value).Set.zeroValue")
  if fl / ReflectliteValue.flagAddr % 2 == 0 then unsupported (.noEntry "extern/(internal/reflectlite.Value).Set.unaddressable")
  let val←loadVar src b
  if←Rtype.directlyAssignable dst src then storeVar dst a val
  else if←Rtype.implements dst src then
   if (← Rtype.kind src) == 20 then
    match val with
    | .nilIface=>unsupported (.noEntry "extern/reflectlite: a nil value of one interface type handed on as a value of another")
    | _=>storeVar dst a val
   else storeVar dst a (.iface src val)
  else panicString ("reflectlite.Set: value of type " ++ (← Rtype.spelt src) ++ " is not assignable to type " ++ (← Rtype.spelt dst))
  pure (.tuple #[])):=rfl
theorem BF (a p:Addr) (W:World) (ha:W.cell? a=some (.pointer (some p))) :
  (ReflectliteValue.method (ReflectliteValue.valueError "reflectlite.Value.IsNil" 0) ReflectliteValue.isNil #[.agg #[.pointer (some ⟨9,264,none⟩),.pointer (some a),.int .u64 150]]).run Tryz.prog W=.ok (.bool false) W:=by
 rw [rlm];simp only [Sem.run_bind,xq,Result.andThen];simp [ReflectliteValue.isNil,loadVar,isAgg,underlying,Tryz.underlying264,ha,Result.andThen]
theorem AU (a p:Addr) (W:World) (ha:W.cell? a=some (.pointer (some p))) :
  (ReflectliteValue.method (ReflectliteValue.valueError "reflectlite.Value.Elem" 0) ReflectliteValue.elem #[.agg #[.pointer (some ⟨9,264,none⟩),.pointer (some a),.int .u64 150]]).run Tryz.prog W
   = .ok (.agg #[.pointer (some ⟨9,168,none⟩),.pointer (some p),.int .u64 406]) W:=by
 rw [rlm];simp only [Sem.run_bind,xq,Result.andThen];simp [ReflectliteValue.elem,loadVar,isAgg,underlying,Tryz.underlying264,ha,Result.andThen,IE,Sw]
theorem M0 (a p:Addr) (W:World) (ha:W.cell? a=some (.pointer (some p))) :
  (ReflectliteValue.method (ReflectliteValue.valueError "reflectlite.Value.IsNil" 0) ReflectliteValue.isNil #[.agg #[.pointer (some ⟨9,265,none⟩),.pointer (some a),.int .u64 150]]).run Tryz.prog W=.ok (.bool false) W:=by
 rw [rlm];simp only [Sem.run_bind,ww,Result.andThen];simp [ReflectliteValue.isNil,loadVar,isAgg,underlying,Tryz.underlying265,ha,Result.andThen]
theorem KW (a p:Addr) (W:World) (ha:W.cell? a=some (.pointer (some p))) :
  (ReflectliteValue.method (ReflectliteValue.valueError "reflectlite.Value.Elem" 0) ReflectliteValue.elem #[.agg #[.pointer (some ⟨9,265,none⟩),.pointer (some a),.int .u64 150]]).run Tryz.prog W
   = .ok (.agg #[.pointer (some ⟨9,43,none⟩),.pointer (some p),.int .u64 386]) W:=by
 rw [rlm];simp only [Sem.run_bind,ww,Result.andThen];simp [ReflectliteValue.elem,loadVar,isAgg,underlying,Tryz.underlying265,ha,Result.andThen,GL,TF]
theorem Rx (ta b e:Addr) (old:Value) (W:World) (hb:W.cell? b=some (.pointer (some e))) (ht:W.cell? ta=some old) (hf:W.frozen? ta=false) :
  (ReflectliteValue.set #[.agg #[.pointer (some ⟨9,168,none⟩),.pointer (some ta),.int .u64 406],.agg #[.pointer (some ⟨9,168,none⟩),.pointer (some b),.int .u64 150]]).run Tryz.prog W=.ok (.tuple #[]) (W.setCell ta (.pointer (some e))):=by
 rw [rls];simp only [Sem.run_bind,JR,LU,Result.andThen];simp [ReflectliteValue.flagAddr,loadVar,isAgg,underlying,Tryz.underlying168,hb,Result.andThen,Ib,storeVar,Value.cells,storeCells,Addr.add];rw [run_store Tryz.prog W ta _ _ (by rfl)];simp [ht,hf]
theorem Ra (ta b:Addr) (k:Int) (old:Value) (W:World) (hb:W.cell? b=some (.int .i64 k)) (ht:W.cell? ta=some old) (hf:W.frozen? ta=false) :
  (ReflectliteValue.set #[.agg #[.pointer (some ⟨9,43,none⟩),.pointer (some ta),.int .u64 386],.agg #[.pointer (some ⟨9,43,none⟩),.pointer (some b),.int .u64 130]]).run Tryz.prog W=.ok (.tuple #[]) (W.setCell ta (.int .i64 k)):=by
 rw [rls];simp only [Sem.run_bind,Jj,MB,Result.andThen];simp [ReflectliteValue.flagAddr,loadVar,isAgg,underlying,Tryz.underlying43,hb,Result.andThen,Il,storeVar,Value.cells,storeCells,Addr.add];rw [run_store Tryz.prog W ta _ _ (by rfl)];simp [ht,hf]
theorem O5 (v:Value) (xT:TypeId) (w:World):(Instr.typeAssert (.iface 168 v) xT 336 true).run Tryz.prog w=.ok (.tuple #[.nilIface,.bool false]) w:=run_typeAssert_lacksB Tryz.underlying336 (by kernel_rfl) (by kernel_rfl) v xT w
theorem F7 (v:Value) (xT:TypeId) (w:World):(Instr.typeAssert (.iface 43 v) xT 336 true).run Tryz.prog w=.ok (.tuple #[.nilIface,.bool false]) w:=run_typeAssert_lacksB Tryz.underlying336 (by kernel_rfl) (by kernel_rfl) v xT w
theorem PD (v:Value) (xT:TypeId) (w:World):(Instr.typeAssert (.iface 168 v) xT 339 true).run Tryz.prog w=.ok (.tuple #[.iface 168 v,.bool true]) w:=run_typeAssert_hasB Tryz.underlying339 (by kernel_rfl) v xT w
theorem Qw (v:Value) (xT:TypeId) (w:World):(Instr.typeAssert (.iface 43 v) xT 339 true).run Tryz.prog w=.ok (.tuple #[.nilIface,.bool false]) w:=run_typeAssert_lacksB Tryz.underlying339 (by kernel_rfl) (by kernel_rfl) v xT w
theorem QK (v:Value) (xT:TypeId) (w:World):(Instr.typeAssert (.iface 43 v) xT 340 true).run Tryz.prog w=.ok (.tuple #[.nilIface,.bool false]) w:=run_typeAssert_lacksB Tryz.underlying340 (by kernel_rfl) (by kernel_rfl) v xT w
theorem SI (e:Addr) (w:World):(Go.method 527 168 (.pointer (some e)) "Unwrap").run Tryz.prog w=.ok (379,.pointer (some e)) (w):=by kernel_rfl
def Hand (w:World):Prop:=w.cell? ⟨1,0,none⟩=some (.iface 331 (.agg #[.pointer (some ⟨9,41,none⟩)]))
theorem Hand.lt {w:World} (h:Hand w):1<w.heap.size:=World.block_lt_of_cell? w ⟨1,0,none⟩ h
theorem Hand.below {w w':World} (h:Hand w) (hb:Below w.heap.size w w'):Hand w':=(hb.cell (p:=⟨1,0,none⟩) h.lt).trans h
section
variable {w : World}
theorem Qs (e t:Addr) (old:Value) (hg:Hand w) (ht0:w.cell? t=some old) (hf0:w.frozen? t=false) :
  Calls Tryz.prog 187 #[.iface 168 (.pointer (some e)),.iface 264 (.pointer (some t))] w fun ev w'=>ev=.returned (.bool true)∧∃W,Below w.heap.size w W∧w'=W.setCell t (.pointer (some e)):=by
 have h139:=@run_callFunc_extern Tryz.prog 249 _ (fun args=>ReflectliteValue.unpack (args.getD 0 (.tuple #[]))) Tryz.func249 (by kernel_rfl) (by kernel_rfl) (by kernel_rfl) (by kernel_rfl);have h140:=@run_callFunc_extern Tryz.prog 250 _ (ReflectliteValue.methodAny (ReflectliteValue.valueError "reflectlite.Value.Type" 0) (fun t _ _ _=>ReflectliteType.toType t)) Tryz.func250 (by kernel_rfl) (by kernel_rfl) (by kernel_rfl) (by kernel_rfl);have h141:=@run_callFunc_extern Tryz.prog 251 _ (ReflectliteValue.method (ReflectliteValue.valueError "reflectlite.Value.IsNil" 0) ReflectliteValue.isNil) Tryz.func251 (by kernel_rfl) (by kernel_rfl) (by kernel_rfl) (by kernel_rfl);have h203:=@run_callFunc_extern Tryz.prog 373 _ (ReflectliteType.abiMethod fun t=>do pure (.int .u8 (← Rtype.kind t))) Tryz.func373 (by kernel_rfl) (by kernel_rfl) (by kernel_rfl) (by kernel_rfl);have h217:=@run_callFunc_extern Tryz.prog 387 _ (ReflectliteType.method ReflectliteType.elem) Tryz.func387 (by kernel_rfl) (by kernel_rfl) (by kernel_rfl) (by kernel_rfl);have h218:=@run_callFunc_extern Tryz.prog 388 _ (ReflectliteType.relation "Implements" ReflectliteType.implements_) Tryz.func388 (by kernel_rfl) (by kernel_rfl) (by kernel_rfl) (by kernel_rfl);have h155:=@run_callFunc_extern Tryz.prog 288 _ ReflectliteType.typeOf Tryz.func288 (by kernel_rfl) (by kernel_rfl) (by kernel_rfl) (by kernel_rfl);have h215:=@run_callFunc_extern Tryz.prog 385 _ (ReflectliteType.relation "AssignableTo" ReflectliteType.assignableTo) Tryz.func385 (by kernel_rfl) (by kernel_rfl) (by kernel_rfl) (by kernel_rfl)
 have h156:=@run_callFunc_extern Tryz.prog 289 _ (ReflectliteValue.method (ReflectliteValue.valueError "reflectlite.Value.Elem" 0) ReflectliteValue.elem) Tryz.func289 (by kernel_rfl) (by kernel_rfl) (by kernel_rfl) (by kernel_rfl);have h157:=@run_callFunc_extern Tryz.prog 290 _ ReflectliteValue.set Tryz.func290 (by kernel_rfl) (by kernel_rfl) (by kernel_rfl) (by kernel_rfl);have tO:=wJ;have aF:=OM;have vF:=DD;have f6:=qQ;have f7:=Cr;have kFF:=zQ;have kF:=F3;have eFF:=Br;have iF:=F4;have mA:=DU;have mK:=zF;have mE:=yJ;have mI:=yD;have hlt:=hg.lt
 have htl:t.block<w.heap.size:=by
  rcases Nat.lt_or_ge t.block w.heap.size with h | h
  ·exact h
  ·simp [World.cell?,Array.getElem?_eq_none h] at ht0
 have n8:=BF ⟨w.heap.size,0,none⟩ t ((w.alloc (.cells #[.pointer (some t)] 264)).alloc (.cells #[.pointer (some ⟨9,264,none⟩),.pointer (some ⟨w.heap.size,0,none⟩),.int .u64 150] 300)) (by simp)
 have hg2:((w.alloc (.cells #[.pointer (some t)] 264)).alloc (.cells #[.pointer (some ⟨9,264,none⟩),.pointer (some ⟨w.heap.size,0,none⟩),.int .u64 150] 300)).cell? ⟨1,0,none⟩=some (.iface 331 (.agg #[.pointer (some ⟨9,41,none⟩)])):=by
  rw [World.cell?_alloc_lt _ _ ⟨1,0,none⟩ (by first | (simp;done) | (simp;omega)),World.cell?_alloc_lt _ _ ⟨1,0,none⟩ hlt];exact hg
 have el:=AU ⟨w.heap.size,0,none⟩ t (((w.alloc (.cells #[.pointer (some t)] 264)).alloc (.cells #[.pointer (some ⟨9,264,none⟩),.pointer (some ⟨w.heap.size,0,none⟩),.int .u64 150] 300)).alloc (.cells #[.pointer (some ⟨9,264,none⟩),.pointer (some ⟨w.heap.size,0,none⟩),.int .u64 150] 300)) (by rw [World.cell?_alloc_lt _ _ ⟨w.heap.size,0,none⟩ (by simp;omega)];simp)
 have st:=Rx t ⟨w.heap.size+1+1+1,0,none⟩ e old ((((w.alloc (.cells #[.pointer (some t)] 264)).alloc (.cells #[.pointer (some ⟨9,264,none⟩),.pointer (some ⟨w.heap.size,0,none⟩),.int .u64 150] 300)).alloc (.cells #[.pointer (some ⟨9,264,none⟩),.pointer (some ⟨w.heap.size,0,none⟩),.int .u64 150] 300)).alloc (.cells #[.pointer (some e)] 168))
  (by rw [World.cell?_alloc_at _ _ _ _ (by simp)];rfl)
  (by rw [World.cell?_alloc_lt _ _ t (by simp;omega),World.cell?_alloc_lt _ _ t (by simp;omega),World.cell?_alloc_lt _ _ t (by simp;omega),World.cell?_alloc_lt _ _ t htl];exact ht0)
  (by rw [World.frozen?_alloc_old _ _ t (by simp;omega),World.frozen?_alloc_old _ _ t (by simp;omega),World.frozen?_alloc_old _ _ t (by simp;omega),World.frozen?_alloc_old _ _ t (Nat.ne_of_lt htl)];exact hf0)
 have hbl:Below w.heap.size w ((((w.alloc (.cells #[.pointer (some t)] 264)).alloc (.cells #[.pointer (some ⟨9,264,none⟩),.pointer (some ⟨w.heap.size,0,none⟩),.int .u64 150] 300)).alloc (.cells #[.pointer (some ⟨9,264,none⟩),.pointer (some ⟨w.heap.size,0,none⟩),.int .u64 150] 300)).alloc (.cells #[.pointer (some e)] 168)):=by exact aa
 go_enter Tryz.func187,Tryz.ntmps187;go_wp2;refine wp_loop_rounds 1 ?_;rw [rounds_succ];go_wp2;go_ret;exact ⟨rfl,_,hbl,rfl⟩
theorem Kr (k:Int) (t:Addr) (old:Value) (hg:Hand w) (ht0:w.cell? t=some old) :
  Calls Tryz.prog 187 #[.iface 43 (.int .i64 k),.iface 264 (.pointer (some t))] w fun ev w'=>ev=.returned (.bool false)∧Below w.heap.size w w':=by
 have h139:=@run_callFunc_extern Tryz.prog 249 _ (fun args=>ReflectliteValue.unpack (args.getD 0 (.tuple #[]))) Tryz.func249 (by kernel_rfl) (by kernel_rfl) (by kernel_rfl) (by kernel_rfl);have h140:=@run_callFunc_extern Tryz.prog 250 _ (ReflectliteValue.methodAny (ReflectliteValue.valueError "reflectlite.Value.Type" 0) (fun t _ _ _=>ReflectliteType.toType t)) Tryz.func250 (by kernel_rfl) (by kernel_rfl) (by kernel_rfl) (by kernel_rfl);have h141:=@run_callFunc_extern Tryz.prog 251 _ (ReflectliteValue.method (ReflectliteValue.valueError "reflectlite.Value.IsNil" 0) ReflectliteValue.isNil) Tryz.func251 (by kernel_rfl) (by kernel_rfl) (by kernel_rfl) (by kernel_rfl);have h203:=@run_callFunc_extern Tryz.prog 373 _ (ReflectliteType.abiMethod fun t=>do pure (.int .u8 (← Rtype.kind t))) Tryz.func373 (by kernel_rfl) (by kernel_rfl) (by kernel_rfl) (by kernel_rfl);have h217:=@run_callFunc_extern Tryz.prog 387 _ (ReflectliteType.method ReflectliteType.elem) Tryz.func387 (by kernel_rfl) (by kernel_rfl) (by kernel_rfl) (by kernel_rfl);have h218:=@run_callFunc_extern Tryz.prog 388 _ (ReflectliteType.relation "Implements" ReflectliteType.implements_) Tryz.func388 (by kernel_rfl) (by kernel_rfl) (by kernel_rfl) (by kernel_rfl);have h155:=@run_callFunc_extern Tryz.prog 288 _ ReflectliteType.typeOf Tryz.func288 (by kernel_rfl) (by kernel_rfl) (by kernel_rfl) (by kernel_rfl);have h215:=@run_callFunc_extern Tryz.prog 385 _ (ReflectliteType.relation "AssignableTo" ReflectliteType.assignableTo) Tryz.func385 (by kernel_rfl) (by kernel_rfl) (by kernel_rfl) (by kernel_rfl)
 have h156:=@run_callFunc_extern Tryz.prog 289 _ (ReflectliteValue.method (ReflectliteValue.valueError "reflectlite.Value.Elem" 0) ReflectliteValue.elem) Tryz.func289 (by kernel_rfl) (by kernel_rfl) (by kernel_rfl) (by kernel_rfl);have h157:=@run_callFunc_extern Tryz.prog 290 _ ReflectliteValue.set Tryz.func290 (by kernel_rfl) (by kernel_rfl) (by kernel_rfl) (by kernel_rfl);have tO:=vX;have aF:=OP;have f6:=qQ;have f7:=Cr;have kFF:=zQ;have kF:=F3;have eFF:=Br;have iF:=F4;have n1:=F7;have n2:=Qw;have n3:=QK;have mA:=DU;have mK:=zF;have mE:=yJ;have mI:=yD;have hlt:=hg.lt
 have htl:t.block<w.heap.size:=by
  rcases Nat.lt_or_ge t.block w.heap.size with h | h
  ·exact h
  ·simp [World.cell?,Array.getElem?_eq_none h] at ht0
 have n8:=BF ⟨w.heap.size,0,none⟩ t ((w.alloc (.cells #[.pointer (some t)] 264)).alloc (.cells #[.pointer (some ⟨9,264,none⟩),.pointer (some ⟨w.heap.size,0,none⟩),.int .u64 150] 300)) (by simp)
 have hg2:((w.alloc (.cells #[.pointer (some t)] 264)).alloc (.cells #[.pointer (some ⟨9,264,none⟩),.pointer (some ⟨w.heap.size,0,none⟩),.int .u64 150] 300)).cell? ⟨1,0,none⟩=some (.iface 331 (.agg #[.pointer (some ⟨9,41,none⟩)])):=by
  rw [World.cell?_alloc_lt _ _ ⟨1,0,none⟩ (by first | (simp;done) | (simp;omega)),World.cell?_alloc_lt _ _ ⟨1,0,none⟩ hlt];exact hg
 have el:=AU ⟨w.heap.size,0,none⟩ t (((w.alloc (.cells #[.pointer (some t)] 264)).alloc (.cells #[.pointer (some ⟨9,264,none⟩),.pointer (some ⟨w.heap.size,0,none⟩),.int .u64 150] 300)).alloc (.cells #[.pointer (some ⟨9,264,none⟩),.pointer (some ⟨w.heap.size,0,none⟩),.int .u64 150] 300)) (by rw [World.cell?_alloc_lt _ _ ⟨w.heap.size,0,none⟩ (by simp;omega)];simp);have hbl:Below w.heap.size w (((w.alloc (.cells #[.pointer (some t)] 264)).alloc (.cells #[.pointer (some ⟨9,264,none⟩),.pointer (some ⟨w.heap.size,0,none⟩),.int .u64 150] 300)).alloc (.cells #[.pointer (some ⟨9,264,none⟩),.pointer (some ⟨w.heap.size,0,none⟩),.int .u64 150] 300)):=by exact aa
 go_enter Tryz.func187,Tryz.ntmps187;go_wp2;refine wp_loop_rounds 1 ?_;rw [rounds_succ];go_wp2;go_ret;exact ⟨rfl,hbl⟩
end
end Go.Proofs.YtnhekaepgpbijaaGreatDoor
namespace Go.Proofs.YtnhekaepgpbijaaGreatDoor
open Go
section
variable {P : Program} {ops : Array Oper} {Q : Exit → Act → World → Prop} {md : Region.Mode} {S : World → Prop} {E : Nat → Bool}

def eU (P:Program) (md:Region.Mode) (ops:Array Oper) (Q:Exit→Act→World→Prop) (S:World→Prop) (E:Nat→Bool):Nat→Array Bool→Act→World→Prop
 | 0,listed,a,w=>Region.ready md ops listed=[]∧Q .normal a w
 | fuel+1,listed,a,w =>
  (Region.ready md ops listed=[]→Q .normal a w) ∧
  ∀i∈Region.ready md ops listed,wpOp P ops Q i (fun a' w'=>(E i=true→S w')∧eU P md ops Q S E fuel (listed.setIfInBounds i true) a' w') a w
theorem uU:∀(fuel:Nat) (listed:Array Bool) (a:Act) (w:World),eU P md ops Q S E fuel listed a w→wpAny P md ops Q fuel listed a w
 | 0,_,_,_,h=>h
 | fuel+1,_,_,_,h=>⟨h.1,fun i hi=>wpOp_mono (fun a' w' h'=>uU fuel _ a' w' h'.2) (h.2 i hi)⟩
theorem zo {i:Nat} {oi:Oper} {v:Value} (hi:ops[i]?=some oi) (hsel:∀(j:Nat) (o:Oper) cs b,ops[j]?=some o→o.op≠.select cs b)
  (hQ:∀c a w,Q (.panic c) (a.put oi.dst v) w→Q (.panic c) a w) :
  ∀(fuel:Nat) (listed:Array Bool) (a:Act) (w:World),
   (∀j oj,ops[j]?=some oj→j≠i→listed.getD j true=false→(∀e∈oj.after,Region.binds md e=true→e.on≠i)→oi.apart ops oj=true∧E j=true) →
   i∈Region.ready md ops listed→YieldsIf P ops S oi v a→S w →
   eU P md ops Q S E fuel (listed.setIfInBounds i true) (a.put oi.dst v) w→eU P md ops Q S E (fuel+1) listed a w:=by
 intro fuel
 induction fuel with
 | zero =>
  intro listed a w _ hr hy hS H;refine ⟨fun h=>(by rw [h] at hr;cases hr),fun j hj=>?_⟩
  by_cases hji:j=i
  ·subst hji;exact hy.wpOp hi hS ⟨fun _=>hS,H⟩
  ·have:=ready_mono hj hji
   rw [H.1] at this;cases this
 | succ fuel ih =>
  intro listed a w hfree hr hy hS H;refine ⟨fun h=>(by rw [h] at hr;cases hr),fun j hj=>?_⟩
  by_cases hji:j=i
  ·subst hji;exact hy.wpOp hi hS ⟨fun _=>hS,H⟩
  ·have h1:=H.2 j (ready_mono hj hji)
   obtain ⟨hjun,oj,hoj,hall⟩:=mem_ready.1 hj
   have hnot:∀e∈oj.after,Region.binds md e=true→e.on≠i:=fun e he hb heq=>by
    have h1:=hall e he hb;have h0:=(mem_ready.1 hr).1;rw [heq] at h1;rcases Nat.lt_or_ge i listed.size with h' | h'
    ·simp [h'] at h0 h1;rw [h0] at h1;cases h1
    ·simp [Array.getElem?_eq_none h'] at h1
   have hEj:=(hfree j oj hoj hji hjun hnot).2;have h2:=wpOp_putIf hoj (hfree j oj hoj hji hjun hnot).1 (fun cs b=>hsel i oi cs b hi) (fun cs b=>hsel j oj cs b hoj) hQ hy h1
   have hfree':∀k ok,ops[k]?=some ok→k≠i→(listed.setIfInBounds j true).getD k true=false →
     (∀e∈ok.after,Region.binds md e=true→e.on≠i)→oi.apart ops ok=true∧E k=true:=fun k ok hk hki hun hno=>by
    refine hfree k ok hk hki ?_ hno
    by_cases hjk:j=k
    ·subst hjk;exact hjun
    ·rw [getD_set_ne true hjk] at hun;exact hun
   refine wpOp_mono (fun a' w' h3=>⟨h3.2.1,ih (listed.setIfInBounds j true) a' w' hfree' (ready_mono hr (Ne.symm hji)) h3.1 (h3.2.1 hEj) ?_⟩) h2;rw [Array.setIfInBounds_comm _ _ hji];exact h3.2.2
theorem vT {i:Nat} {oi:Oper} {v:Value} (hi:ops[i]?=some oi) (hsel:∀(j:Nat) (o:Oper) cs b,ops[j]?=some o→o.op≠.select cs b)
  (hQ:∀c a w,Q (.panic c) (a.put oi.dst v) w→Q (.panic c) a w) (hEi:E i=false) :
  ∀(fuel:Nat) (listed:Array Bool) (a:Act) (w:World),
   (∀j oj,ops[j]?=some oj→j≠i→listed.getD j true=false→(∀e∈oj.after,Region.binds md e=true→e.on≠i)→oi.apart ops oj=true) →
   i∈Region.ready md ops listed→YieldsIf P ops (fun _=>True) oi v a →
   eU P md ops Q S E fuel (listed.setIfInBounds i true) (a.put oi.dst v) w→eU P md ops Q S E (fuel+1) listed a w:=by
 intro fuel
 induction fuel with
 | zero =>
  intro listed a w _ hr hy H;refine ⟨fun h=>(by rw [h] at hr;cases hr),fun j hj=>?_⟩
  by_cases hji:j=i
  ·subst hji;exact hy.wpOp hi trivial ⟨fun h=>(by rw [hEi] at h;cases h),H⟩
  ·have:=ready_mono hj hji
   rw [H.1] at this;cases this
 | succ fuel ih =>
  intro listed a w hfree hr hy H;refine ⟨fun h=>(by rw [h] at hr;cases hr),fun j hj=>?_⟩
  by_cases hji:j=i
  ·subst hji;exact hy.wpOp hi trivial ⟨fun h=>(by rw [hEi] at h;cases h),H⟩
  ·have h1:=H.2 j (ready_mono hj hji)
   obtain ⟨hjun,oj,hoj,hall⟩:=mem_ready.1 hj
   have hnot:∀e∈oj.after,Region.binds md e=true→e.on≠i:=fun e he hb heq=>by
    have h1:=hall e he hb;have h0:=(mem_ready.1 hr).1;rw [heq] at h1;rcases Nat.lt_or_ge i listed.size with h' | h'
    ·simp [h'] at h0 h1;rw [h0] at h1;cases h1
    ·simp [Array.getElem?_eq_none h'] at h1
   have h2:=wpOp_putIf hoj (hfree j oj hoj hji hjun hnot) (fun cs b=>hsel i oi cs b hi) (fun cs b=>hsel j oj cs b hoj) hQ hy h1
   have hfree':∀k ok,ops[k]?=some ok→k≠i→(listed.setIfInBounds j true).getD k true=false →
     (∀e∈ok.after,Region.binds md e=true→e.on≠i)→oi.apart ops ok=true:=fun k ok hk hki hun hno=>by
    refine hfree k ok hk hki ?_ hno
    by_cases hjk:j=k
    ·subst hjk;exact hjun
    ·rw [getD_set_ne true hjk] at hun;exact hun
   refine wpOp_mono (fun a' w' h3=>⟨h3.2.1,ih (listed.setIfInBounds j true) a' w' hfree' (ready_mono hr (Ne.symm hji)) h3.1 ?_⟩) h2;rw [Array.setIfInBounds_comm _ _ hji];exact h3.2.2
def LZ (md:Region.Mode) (ops:Array Oper) (E:Nat→Bool) (listed:Array Bool) (i:Nat):Bool :=
 (List.range ops.size).all fun j=>j == i || listed.getD j true || Region.waitsFor md ops j i || E j
theorem Ff {i:Nat} {listed:Array Bool} (h:LZ md ops E listed i=true) (j:Nat) (oj:Oper) (hj:ops[j]?=some oj) (hji:j≠i) (hun:listed.getD j true=false) (hno:∀e∈oj.after,Region.binds md e=true→e.on≠i):E j=true:=by
 unfold LZ at h;rw [List.all_eq_true] at h;have hlt:j<ops.size:=(Array.getElem?_eq_some_iff.1 hj).1;have h1:=h j (List.mem_range.2 hlt);simp only [Bool.or_eq_true,beq_iff_eq] at h1;rcases h1 with ((h1 | h1) | h1) | h1
 ·exact absurd h1 hji
 ·rw [hun] at h1;cases h1
 ·obtain ⟨oj',hj',e,he,hb,ho⟩:=Region.waitsFor_spec h1
  rw [hj] at hj';cases hj'
  exact absurd ho (hno e he hb)
 ·exact h1
theorem aJ {i:Nat} {oi:Oper} {v:Value} {fuel:Nat} {listed:Array Bool} {a:Act} {w:World} (hi:ops[i]?=some oi)
  (hs:Region.noSelect ops=true) (hf:Region.free md ops listed i=true) (hr:(Region.ready md ops listed).contains i=true) (hl:LZ md ops E listed i=true)
  (hQ:∀c a w,Q (.panic c) (a.put oi.dst v) w→Q (.panic c) a w) (hy:YieldsIf P ops S oi v a) (hS:S w)
  (h:eU P md ops Q S E fuel (listed.setIfInBounds i true) (a.put oi.dst v) w):eU P md ops Q S E (fuel+1) listed a w :=
 zo hi (Region.noSelect_spec hs) hQ fuel listed a w (fun j oj hj hji hun hno=>⟨Region.free_spec hi hf j oj hj hji hun hno,Ff hl j oj hj hji hun hno⟩) (by simpa using hr) hy hS h
theorem ay {i:Nat} {oi:Oper} {v:Value} {fuel:Nat} {listed:Array Bool} {a:Act} {w:World} (hi:ops[i]?=some oi)
  (hs:Region.noSelect ops=true) (hf:Region.free md ops listed i=true) (hr:(Region.ready md ops listed).contains i=true) (hE:E i=false)
  (hQ:∀c a w,Q (.panic c) (a.put oi.dst v) w→Q (.panic c) a w) (hy:YieldsIf P ops (fun _=>True) oi v a)
  (h:eU P md ops Q S E fuel (listed.setIfInBounds i true) (a.put oi.dst v) w):eU P md ops Q S E (fuel+1) listed a w :=
 vT hi (Region.noSelect_spec hs) hQ hE fuel listed a w (fun j oj hj hji hun hno=>Region.free_spec hi hf j oj hj hji hun hno) (by simpa using hr) hy h
theorem dZ {listed:Array Bool} {a:Act} {w:World} (hr:Region.ready md ops listed=[]) (h:Q .normal a w) :
  ∀fuel,eU P md ops Q S E fuel listed a w
 | 0=>⟨hr,h⟩
 | _+1=>⟨fun _=>h,by rw [hr];simp⟩
def ae (P:Program) (md:Region.Mode) (ops:Array Oper) (Q:Exit→Act→World→Prop) (S:World→Prop) (E:Nat→Bool) (fuel:Nat) (listed:Array Bool) (a:Act) (w:World) (rs:List Nat):Prop :=
 ∀i∈rs,wpOp P ops Q i (fun a' w'=>(E i=true→S w')∧eU P md ops Q S E fuel (listed.setIfInBounds i true) a' w') a w
theorem ae.nil {fuel:Nat} {listed:Array Bool} {a:Act} {w:World}:ae P md ops Q S E fuel listed a w []:=fun _ h=>by cases h
theorem ae.cons {fuel:Nat} {listed:Array Bool} {a:Act} {w:World} {i:Nat} {o:Oper} {rs:List Nat} (ho:ops[i]?=some o)
  (h:∀K':Act→World→Prop,Shut (∀a w,S w→(S w→eU P md ops Q S E fuel (listed.setIfInBounds i true) a w)→K' a w)→if Region.wanted o (yielded ops a.tmps)=true then Oper.wp P o a w K' Q else K' (a.put o.dst undef) w)
  (hs:ae P md ops Q S E fuel listed a w rs):ae P md ops Q S E fuel listed a w (i :: rs):=fun j hj=>by
 rcases List.mem_cons.1 hj with rfl | hj
 ·exact wpOp_step ho (fun K' hK=>h K' (fun a w hS hW=>hK a w ⟨fun _=>hS,hW hS⟩))
 ·exact hs j hj
theorem ae.late {fuel:Nat} {listed:Array Bool} {a:Act} {w:World} {i:Nat} {o:Oper} {rs:List Nat} (ho:ops[i]?=some o) (hE:E i=false)
  (h:∀K':Act→World→Prop,Shut (∀a w,eU P md ops Q S E fuel (listed.setIfInBounds i true) a w→K' a w)→if Region.wanted o (yielded ops a.tmps)=true then Oper.wp P o a w K' Q else K' (a.put o.dst undef) w)
  (hs:ae P md ops Q S E fuel listed a w rs):ae P md ops Q S E fuel listed a w (i :: rs):=fun j hj=>by
 rcases List.mem_cons.1 hj with rfl | hj
 ·exact wpOp_step ho (fun K' hK=>h K' (fun a w hW=>hK a w ⟨fun e=>(by rw [hE] at e;cases e),hW⟩))
 ·exact hs j hj
theorem ah {rs:List Nat} {fuel:Nat} {listed:Array Bool} {a:Act} {w:World} (hr:Region.ready md ops listed=rs) (hne:rs≠[])
  (h:ae P md ops Q S E fuel listed a w rs):eU P md ops Q S E (fuel+1) listed a w :=
 ⟨fun h0=>absurd (hr ▸ h0) hne,hr ▸ h⟩
theorem iO (S:World→Prop) (E:Nat→Bool) {id:Nat} {a:Act} {w:World} (hm:P.follows .mixedOrders=true)
  (h:eU P .any ops Q S E ops.size (Array.replicate ops.size false) a w.drew):(Code.region id ops true).wp P Q a w :=
 wp_region_any hm (uU _ _ _ _ h)
theorem dn {o:Oper} {a:Act} {w:World} {x:Operand} {u v:Value} {K:Act→World→Prop} {F:Prop} (hgd:o.guard=none) (hx:a.eval x=u)
  (hr:∀ρ:Operand→Value,ρ x=u→(execOp ρ o).run P w=.ok (.value v) w) (h:K (a.put o.dst v) w):if Region.wanted o (yielded ops a.tmps)=true then Oper.wp P o a w K Q else F:=by
 rw [if_pos (by simp [Region.wanted,hgd])];unfold Oper.wp;rw [hr a.eval hx];exact h
theorem iD (O:Obj) {o:Oper} {a:Act} {w:World} {x:Operand} {u:Value} {K:Act→World→Prop} {F:Prop} (hgd:o.guard=none) (hx:a.eval x=u)
  (hr:∀ρ:Operand→Value,ρ x=u→(execOp ρ o).run P w=.ok (.value (.slice (some ⟨w.heap.size,0,none⟩) 1 1)) (w.alloc O)) (h:K (a.put o.dst (.slice (some ⟨w.heap.size,0,none⟩) 1 1)) (w.alloc O)):if Region.wanted o (yielded ops a.tmps)=true then Oper.wp P o a w K Q else F:=by
 rw [if_pos (by simp [Region.wanted,hgd])];unfold Oper.wp;rw [hr a.eval hx];exact h
theorem dY {o:Oper} {a:Act} {w:World} {p:Addr} {x y:Operand} {u v:Value} {K:Act→World→Prop} {F:Prop} (hgd:o.guard=none) (hx:a.eval x=u) (hy:a.eval y=v)
  (hr:∀ρ:Operand→Value,ρ x=u→ρ y=v→(execOp ρ o).run P w=.ok .skip (w.setCell p v)) (h:K (a.put o.dst undef) (w.setCell p v)):if Region.wanted o (yielded ops a.tmps)=true then Oper.wp P o a w K Q else F:=by
 rw [if_pos (by simp [Region.wanted,hgd])];unfold Oper.wp;rw [hr a.eval hx hy];exact h
end
end Go.Proofs.YtnhekaepgpbijaaGreatDoor
namespace Go.Proofs.YtnhekaepgpbijaaGreatDoor
open Go Go.RowKit
section
variable {P : Program} {ops : Array Oper} {Q : Exit → Act → World → Prop} {md : Region.Mode} {S : World → Prop} {E : Nat → Bool}
def Mk1 (P:Program) (Q:Exit→Act→World→Prop) (ops:Array Oper) (o:Oper) (a:Act) (w:World) (G:Value→World→Prop):Prop :=
 ∀(K:Act→World→Prop) (F:Prop),(∀v w',Below w.heap.size w w'→G v w'→K (a.put o.dst v) w')→if Region.wanted o (yielded ops a.tmps)=true then Oper.wp P o a w K Q else F
theorem vH (k:Nat) (mk:Nat→Nat) (A:List Value→Act) (L:List Bool→Array Bool) (G:Nat→Value→World→Prop) (fuel:Nat)
  (hG:∀p v w w',G p v w→Below w.heap.size w w'→G p v w') (hS:∀w w',S w→Below w.heap.size w w'→S w')
  (hop:∀p,p<k→∃o,ops[mk p]?=some o∧∀gs w,gs.length=k→S w→(∀v,(A gs).put o.dst v=A (gs.set p v))∧Mk1 P Q ops o (A gs) w (G p))
  (hL:∀ds p,ds.length=k→p<k→(L ds).setIfInBounds (mk p) true=L (ds.set p true))
  (hr:∀ds,ds.length=k→ds.all id=false→Region.ready md ops (L ds)≠[]∧∀j∈Region.ready md ops (L ds),∃p,p<k∧mk p=j∧ds[p]?=some false)
  (hfin:∀gs w,gs.length=k→S w→(∀p v,gs[p]?=some v→G p v w)→eU P md ops Q S E fuel (L (List.replicate k true)) (A gs) w) :
  ∀(n:Nat) (ds:List Bool) (gs:List Value) (w:World),ds.length=k→gs.length=k→ds.count false=n→S w→(∀p v,ds[p]?=some true→gs[p]?=some v→G p v w)→eU P md ops Q S E (fuel+n) (L ds) (A gs) w:=by
 intro n
 induction n with
 | zero =>
  intro ds gs w hd hg hc hS0 hall
  have hds:ds=List.replicate k true:=by
   rw [List.eq_replicate_iff];refine ⟨hd,fun b hb=>?_⟩
   cases b with
   | true=>rfl
   | false=>exact absurd hb (List.count_eq_zero.1 hc)
  subst hds;refine hfin gs w hg hS0 fun p v hv=>hall p v ?_ hv
  have hp:=(List.getElem?_eq_some_iff.1 hv).1;rw [List.getElem?_replicate,if_pos (by omega)]
 | succ n ih =>
  intro ds gs w hd hg hc hS0 hall
  have hne:ds.all id=false:=by
   rw [List.all_eq_false]
   have hm:false∈ds:=by
    rcases Classical.em (false∈ds) with h | h
    ·exact h
    ·rw [List.count_eq_zero.2 h] at hc
     cases hc
   exact ⟨false,hm,by decide⟩
  obtain ⟨hr1,hr2⟩:=hr ds hd hne;refine ⟨fun h0=>absurd h0 hr1,fun j hj=>?_⟩;obtain ⟨p,hp,rfl,hdp⟩:=hr2 j hj;obtain ⟨o,ho,hm⟩:=hop p hp;obtain ⟨hput,hmk⟩:=hm gs w hg hS0;refine wpOp_step ho (fun K' hK=>hmk K' _ fun v w' hb hgv=>hK _ _ ⟨fun _=>hS w w' hS0 hb,?_⟩);rw [hput v,hL ds p hd hp];refine ih (ds.set p true) (gs.set p v) w' (by rw [List.length_set];exact hd) (by rw [List.length_set];exact hg) ?_ (hS w w' hS0 hb) fun q u hq hu=>?_
  ·have hpl:p<ds.length:=by omega
   have he:ds[p]=false:=by rw [List.getElem?_eq_getElem hpl] at hdp;exact Option.some.inj hdp
   rw [List.count_set hpl,he,hc];simp
  ·by_cases hqp:p=q
   ·subst hqp
    rw [List.getElem?_set_self (by omega)] at hu;cases hu
    exact hgv
   ·rw [List.getElem?_set_ne hqp] at hq hu
    exact hG q u w w' (hall q u hq hu) hb
def KU:Nat→List (List Bool)
 | 0=>[[]]
 | k+1=>(KU k).flatMap fun l=>[true :: l,false :: l]
theorem Ch:∀(k:Nat) (ds:List Bool),ds.length=k→ds∈KU k
 | 0,[],_=>by simp [KU]
 | k+1,b :: l,h=>by
  unfold KU;rw [List.mem_flatMap];refine ⟨l,Ch k l (by simpa using h),?_⟩;cases b <;> simp
def Tg (md:Region.Mode) (ops:Array Oper) (L:List Bool→Array Bool) (k:Nat) (mk:Nat→Nat):Bool :=
 (KU k).all fun ds=>ds.all id || (!(Region.ready md ops (L ds)).isEmpty && (Region.ready md ops (L ds)).all fun j=>(List.range k).any fun p=>mk p == j && ds[p]? == some false)
theorem Ik {L:List Bool→Array Bool} {k:Nat} {mk:Nat→Nat} (h:Tg md ops L k mk=true) (ds:List Bool) (hd:ds.length=k) (hn:ds.all id=false) :
  Region.ready md ops (L ds)≠[]∧∀j∈Region.ready md ops (L ds),∃p,p<k∧mk p=j∧ds[p]?=some false:=by
 unfold Tg at h;rw [List.all_eq_true] at h;have h2:=h ds (Ch k ds hd);rw [hn,Bool.false_or,Bool.and_eq_true] at h2;refine ⟨fun e=>?_,fun j hj=>?_⟩
 ·rw [e] at h2
  simp at h2
 ·have h3:=List.all_eq_true.1 h2.2 j hj
  rw [List.any_eq_true] at h3;obtain ⟨p,hp,h4⟩:=h3;rw [Bool.and_eq_true,beq_iff_eq,beq_iff_eq] at h4;exact ⟨p,List.mem_range.1 hp,h4.1,h4.2⟩
theorem lX {o:Oper} {a:Act} {w:World} {f:FuncId} {args:Array Value} {G:Value→World→Prop} (hgd:o.guard=none)
  (hr:(execOp a.eval o).run P w=.ok (.enter f args) w) (hc:Calls P f args w (fun e w'=>∃v,e=.returned v∧Below w.heap.size w w'∧G v w')):Mk1 P Q ops o a w G:=fun K F h=>by
 rw [if_pos (by simp [Region.wanted,hgd])];unfold Oper.wp;rw [hr,Oper.upon_enter];refine hc.mono fun e w' hp=>?_
 obtain ⟨v,rfl,hb,hg⟩:=hp;exact h v w' hb hg
theorem NH {o:Oper} {a:Act} {w w':World} {v:Value} {G:Value→World→Prop} (hgd:o.guard=none)
  (hr:(execOp a.eval o).run P w=.ok (.value v) w') (hb:Below w.heap.size w w') (hg:G v w'):Mk1 P Q ops o a w G:=fun K F h=>by
 rw [if_pos (by simp [Region.wanted,hgd])];unfold Oper.wp;rw [hr];exact h v w' hb hg
end
end Go.Proofs.YtnhekaepgpbijaaGreatDoor
