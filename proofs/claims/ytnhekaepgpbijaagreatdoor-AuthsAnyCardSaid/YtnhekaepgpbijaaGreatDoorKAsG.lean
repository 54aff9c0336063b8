/- Several of my texts in one: BaseG, AsQ, As, OrdE, Mkr, EqS. -/
import Derived.Test.YtnhekaepgpbijaaGreatDoorKAli
import Derived.Test.YtnhekaepgpbijaaGreatDoorRows
import Derived.WalkKit
import Derived.WalkSpells
import Derived.WalkLawsBesides
import Derived.Below
import Derived.Laws.OwnMore
import Derived.Laws.Rows
import Derived.Deep.AppendLies
import Derived.Deep.Draws
import Derived.Deep.LoopGhost
import Derived.Deep.QuietTactic
import Derived.BigQuiet
import Derived.BigGuardPart
import Derived.Maps.AppendAt
import Derived.RegionTactic
import Derived.OwnWalk
import Derived.Lib.Hide
import Derived.Outline
import Derived.ShutString
import Derived.Lib.Strings
import Derived.Laws.BytesArg
import Derived.Laws.BitsAllLaws
import Derived.LaidEql
import Derived.Stop.Asserts
import Derived.RowKitTokens
import Derived.OrdersHeld
import Derived.StillTail
import Derived.Deep.RegionHeld
import Derived.DeepKeys
set_option linter.unusedVariables false
set_option linter.unusedSimpArgs false
set_option maxHeartbeats 40000000
set_option maxRecDepth 100000
namespace Go.Proofs.YtnhekaepgpbijaaGreatDoor
open Go.Proofs.Tryz Go.RowKit
variable {base i k:Nat} {p:Addr} {row:Option Nat} {e:TypeId} {a b c:World} {o:Oper} {v:Value} {K:Act->World->Prop} {Q:Exit->Act->World->Prop} {F:Array Oper} {ss:List ByteArray}
theorem ax (a:Addr) (n:Nat):(a.add n).block=a.block:=by unfold Addr.add;split <;> rfl
theorem qp (a:Addr) (i j:Nat):(a.add i).add j=a.add (i+j):=by
 unfold Addr.add
 by_cases hi:i=0 <;> by_cases h:j=0 <;> simp [hi,h,Nat.add_assoc]

def Reads (w:World) (B size:Nat) (A:Option Addr) (n:Nat) (xs:List Value):Prop :=
 xs.length=n*size/\(0<n->∃ad,A=some ad/\ad.block<B/\∀j u,xs[j]?=some u->w.cell? (ad.add j)=some u)

section
variable {w w' : World} {B B' size n : Nat} {A : Option Addr} {xs : List Value}
theorem Reads.none_:Reads w B size A 0 []:=⟨Z3,fun h=>absurd h Z0⟩
theorem Reads.at_ (h:Reads w B 1 A n xs) (r:k<n):∃j u,A=some j/\j.block<B/\xs[k]?=some u/\w.cell? (j.add k)=some u:=by
 obtain ⟨j,e,p,q⟩:=h.2 Z0;have o:k<xs.length:=by have:=h.1;omega
 exact ⟨j,xs[k],e,p,Y1 o,q k _ (Y1 o)⟩
theorem Reads.keep (h:Reads w B size A n xs) (v:∀p:Addr,p.block<B->w'.cell? p=w.cell? p):Reads w' B size A n xs :=
 ⟨h.1,fun z=>by
  obtain ⟨q,e,o,r⟩:=h.2 z
  exact ⟨q,e,o,fun j u C=>(v _ (by rw [ax];exact o)).trans (r j u C)⟩⟩
theorem Reads.more (h:Reads w B size A n xs) (q:B<=B'):Reads w B' size A n xs :=
 ⟨h.1,fun p=>by
  obtain ⟨j,e,r,o⟩:=h.2 p
  exact ⟨j,e,Z0,o⟩⟩
theorem Reads.below (h:Reads w B size A n xs) (j:Below B w w'):Reads w' B size A n xs:=h.keep fun _ hp=>j.cell hp
theorem Reads.drew (h:Reads w B size A n xs):Reads w.drew B size A n xs:=h
theorem Reads.drewN (h:Reads w B size A n xs) (k:Nat):Reads (w.drewN k) B size A n xs:=h
theorem Reads.alloc (h:Reads w B size A n xs) (j:B<=w.heap.size) (o:Obj):Reads (w.alloc o) B size A n xs:=h.keep fun p hp=>World.cell?_alloc_lt w o p Z0
theorem Reads.setCell (h:Reads w B size A n xs) (j:B<=p.block) (u:Value):Reads (w.setCell p u) B size A n xs :=
 h.keep fun q o=>World.cell?_setCell_other w p q u (fun e=>by subst e;omega)
theorem Reads.grown (h:Reads w B size A n xs) (j:w.grownBy w' row) (q:B<=w.heap.size) (o:∀g,row=some g->B<=g):Reads w' B size A n xs :=
 h.keep fun p hp=>World.cell?_of_block (j.block p.block Z0 (fun e=>by have:=o _ e.symm;omega))
theorem Reads.cut (h:Reads w B size A n xs) {cap:Nat} (z:k<=n) (v:n<=cap) :
  Reads w B size (if cap=k then A else A.map (·.add (k*size))) (n - k) (xs.drop (k*size)):=by
 refine ⟨by rw [Yu,h.1,Nat.sub_mul],fun C=>?_⟩;obtain ⟨p,rfl,q,o⟩:=h.2 Z0;rw [Y5 Z0];refine ⟨p.add (k*size),rfl,by rw [ax];exact q,fun j u r=>?_⟩;rw [qp];exact o _ u (by rw [<-r,List.getElem?_drop])
theorem Reads.of_own {c:Nat} (h:w.ownsRow base e size (.slice A n c) n xs):Reads w w.heap.size size A n xs:=by
 refine ⟨h.1,fun p=>?_⟩;obtain ⟨g,cap,q,_,j⟩:=h.form p;have o:A=some ⟨g,0,none⟩:=by injection q
 subst o;exact ⟨_,rfl,j,h.cells (g:=g) rfl⟩
end
def Blk (w:World) (g:Nat) (t:TypeId) (cs:Array Value):Prop:=w.heap[g]?=some (.cells cs t (0,0))

section
variable {w w' : World} {g : Nat} {t : TypeId} {cs : Array Value}
theorem Blk.lt (h:Blk w g t cs):g<w.heap.size:=by
 rcases Nat.lt_or_ge g w.heap.size with o | j
 ·exact o
 ·unfold Blk at h;rw [Array.getElem?_eq_none j] at h;cases h
theorem Blk.cell (h:Blk w g t cs) (i:Nat):w.cell? ⟨g,i,none⟩=cs[i]?:=cell_of_row w g i cs t (0,0) h
theorem Blk.frozen (h:Blk w g t cs) (i:Nat):w.frozen? ⟨g,i,none⟩=false:=by
 unfold Blk at h;simp [World.frozen?,h]
theorem Blk.new (w:World) (t:TypeId) (cs:Array Value):Blk (w.alloc (.cells cs t)) w.heap.size t cs:=heap_alloc_new w _
theorem Blk.drew (h:Blk w g t cs):Blk w.drew g t cs:=h
theorem Blk.drewN (h:Blk w g t cs) (n:Nat):Blk (w.drewN n) g t cs:=h
theorem Blk.alloc (h:Blk w g t cs) (o:Obj):Blk (w.alloc o) g t cs:=(Below.heap_alloc w o g h.lt).trans h
theorem Blk.set_ (h:Blk w g t cs) (i:Nat) (u:Value):Blk (w.setCell ⟨g,i,none⟩ u) g t (cs.setIfInBounds i u):=by
 unfold Blk at h ⊢;simp [World.setCell,Array.getElem?_modify,h]
theorem Blk.far (h:Blk w g t cs) (hp:g≠p.block) (u:Value):Blk (w.setCell p u) g t cs:=(Below.heap_setCell w p u g hp).trans h
theorem Blk.below {B:Nat} (h:Blk w g t cs) (j:Below B w w') (o:g<B):Blk w' g t cs:=(j.block g o).trans h
theorem Blk.grown (h:Blk w g t cs) (j:w.grownBy w' row) (o:some g≠row):Blk w' g t cs:=(j.block g h.lt o).trans h
theorem Blk.ne_ {q:Nat} {r:TypeId} {o:Array Value} (h:Blk w g t cs) (j:Blk w q r o) (p:t≠r):g≠q:=by
 rintro rfl;unfold Blk at h j;rw [h] at j;injection j with j;injection j with _ ht;exact p ht
theorem bf {size n:Nat} {xs:List Value} (h:w.ownsRow base e size v n xs) (q:Blk w g t cs) (j:e≠t):v.ownBlock≠some g:=by
 rcases h.2 with ⟨rfl,_⟩ | ⟨p,cap,o,rfl,_,r,_⟩
 ·simp [Value.ownBlock]
 ·intro he
  have:p=g:=by simpa [Value.ownBlock] using he
  subst this;exact Blk.ne_ (t:=e) r q j rfl
end
section
variable {P : Program} (w : World)

theorem qL (base:Nat) (t q e:TypeId) (i:TypeInfo) (size:Nat) (o:P.underlying t=some (.slice e)) (hi:P.info? e=some i)
  (v:Value) (n:Nat) (xs:List Value) (h:w.ownsRow base e size v n xs) (c:Nat):(Builtin.append_ #[t,t] q #[v,.slice none 0 c]).run P w=.ok v w:=by
 rcases h.2 with ⟨rfl,rfl⟩ | ⟨g,cap,p,rfl,_,_,j,_⟩
 ·simp [Builtin.append_,run_underlying o,sizeOf,typeInfo,hi,Builtin.lenOf,Builtin.firstCells]
 ·simp [Builtin.append_,run_underlying o,sizeOf,typeInfo,hi,Builtin.lenOf,Builtin.firstCells,j,storeCells]

theorem wN (base:Nat) (t S e:TypeId) (i:TypeInfo) (z:Value) (size p:Nat) (T:P.underlying t=some (.slice e)) (hi:P.info? e=some i) (hz:i.zero=some z)
  (G:i.size=size) (N:i.bytes=p) (R:z.cells.size=size) (Q:0<size)
  (v:Value) (n:Nat) (xs:List Value) (q:w.ownsRow base e size v n xs)
  (B:Nat) (A:Option Addr) (m c:Nat) (o:List Value) (I:Reads w B size A m o) (X:∀u∈o,u.oneCell'=true)
  (L:n+m<=maxLen) (r:(n+m)*p<=140737488355328) (F:base<=w.heap.size) :
  ∃v' w',(Builtin.append_ #[t,t] S #[v,.slice A m c]).run P w=.ok v' w'/\w'.ownsRow base e size v' (n+m) (xs++o)/\w.grownBy w' v.ownBlock /\
   (v'.ownBlock=v.ownBlock\/v'.ownBlock=some w.heap.size):=by
 rcases A with _ | K
 ·have hm:m=0:=by
   rcases Nat.eq_zero_or_pos m with D | D
   ·exact D
   ·obtain ⟨K,h,_⟩:=I.2 D
    cases h
  subst hm;have O:o=[]:=Yc (by simpa using I.1);subst O;exact ⟨v,w,qL w base t S e i size T hi v n xs q c,by simpa using q,World.grownBy.refl w _,.inl rfl⟩
 ·have C:∀j u,o[j]?=some u->w.cell? (K.add j)=some u:=by
   intro j u U;rcases Nat.eq_zero_or_pos m with D | D
   ·subst D
    have O:o=[]:=Yc (by simpa using I.1);subst O;simp at U
   ·obtain ⟨V,h,_,hc⟩:=I.2 D
    injection h with h;subst h;exact hc j u U
  obtain ⟨v',w',J,Y,Z,_,h5⟩:=run_append_own_at (P:=P) w base t S e i z size p T hi hz G N R Q v n xs q K m c o I.1 C X L r F;exact ⟨v',w',J,Y,Z,h5⟩

theorem pQ {a:Act} (s x:Operand) (t:TypeId)
  (T:o.op=.call { callee:=.builtin .append,args:=#[s,x],argTypes:=#[t,t] })
  (base:Nat) (e:TypeId) (i:TypeInfo) (z:Value) (size j:Nat) (V:P.underlying t=some (.slice e)) (hi:P.info? e=some i) (Y:i.zero=some z)
  (C:i.size=size) (I:i.bytes=j) (L:z.cells.size=size) (J:0<size)
  (v:Value) (n:Nat) (xs:List Value) (hs:a.eval s=v) (D:w.ownsRow base e size v n xs)
  (B:Nat) (A:Option Addr) (m c:Nat) (p:List Value) (X:a.eval x=.slice A m c) (U:Reads w B size A m p) (N:∀u∈p,u.oneCell'=true)
  (G:n+m<=maxLen) (q:(n+m)*j<=140737488355328) (r:base<=w.heap.size)
  (h:∀v' w',w'.ownsRow base e size v' (n+m) (xs++p)->w.grownBy w' v.ownBlock->(v'.ownBlock=v.ownBlock\/v'.ownBlock=some w.heap.size)->K (a.put o.dst v') w'):o.wp P a w K Q:=by
 obtain ⟨v',w',F,O,R,S⟩:=wN (P:=P) w base t o.type e i z size j V hi Y C I L J v n xs D B A m c p U N G q r;unfold Oper.wp execOp;simp only [T,resolve,invoke,builtin,Sem.run_bind,Sem.run_pure,Result.andThen_ok,List.map_toArray,List.map_cons,List.map_nil,hs,X,F];exact h v' w' O R S

theorem aB {rest:List Oper} {a:Act} (J:o.guard=none) (s x:Operand) (t:TypeId)
  (U:o.op=.call { callee:=.builtin .append,args:=#[s,x],argTypes:=#[t,t] })
  (base:Nat) (e:TypeId) (i:TypeInfo) (z:Value) (size j:Nat) (X:P.underlying t=some (.slice e)) (hi:P.info? e=some i) (Z:i.zero=some z)
  (C:i.size=size) (I:i.bytes=j) (L:z.cells.size=size) (K:0<size)
  (v:Value) (n:Nat) (xs:List Value) (hs:a.eval s=v) (D:w.ownsRow base e size v n xs)
  (B:Nat) (A:Option Addr) (m c:Nat) (p:List Value) (Y:a.eval x=.slice A m c) (V:Reads w B size A m p) (N:∀u∈p,u.oneCell'=true)
  (G:n+m<=maxLen) (q:(n+m)*j<=140737488355328) (r:base<=w.heap.size)
  (h:∀v' w',w'.ownsRow base e size v' (n+m) (xs++p)->w.grownBy w' v.ownBlock->(v'.ownBlock=v.ownBlock\/v'.ownBlock=some w.heap.size)->wpList P F Q rest (a.put o.dst v') w'):wpList P F Q (o :: rest) a w :=
 wpList_plain J fun _ T=>pQ w s x t U base e i z size j X hi Z C I L K v n xs hs D B A m c p Y V N G q r fun v' w' O R S=>T _ _ (h v' w' O R S)

theorem bU {a:Act} {E:Prop} (hgd:o.guard=none) (s x:Operand) (t:TypeId)
  (O:o.op=.call { callee:=.builtin .append,args:=#[s,x],argTypes:=#[t,t] })
  (base:Nat) (e:TypeId) (i:TypeInfo) (z:Value) (size j:Nat) (S:P.underlying t=some (.slice e)) (hi:P.info? e=some i) (U:i.zero=some z)
  (C:i.size=size) (I:i.bytes=j) (L:z.cells.size=size) (J:0<size)
  (v:Value) (n:Nat) (xs:List Value) (hs:a.eval s=v) (D:w.ownsRow base e size v n xs)
  (B:Nat) (A:Option Addr) (m c:Nat) (p:List Value) (T:a.eval x=.slice A m c) (R:Reads w B size A m p) (N:∀u∈p,u.oneCell'=true)
  (G:n+m<=maxLen) (q:(n+m)*j<=140737488355328) (r:base<=w.heap.size)
  (h:∀v' w',w'.ownsRow base e size v' (n+m) (xs++p)->w.grownBy w' v.ownBlock->(v'.ownBlock=v.ownBlock\/v'.ownBlock=some w.heap.size)->K (a.put o.dst v') w') :
  if Region.wanted o (yielded F a.tmps)=true then Oper.wp P o a w K Q else E:=by
 have hw:Region.wanted o (yielded F a.tmps)=true:=ZR;rw [Y6 hw];exact pQ w s x t O base e i z size j S hi U C I L J v n xs hs D B A m c p T R N G q r h
end

def Sl (lo:Nat) (w:World) (size:Nat) (A:Option Addr) (n:Nat) (xs:List Value):Prop :=
 xs.length=n*size/\(0<n->∃ad,A=some ad/\lo<=ad.block/\ad.block<w.heap.size/\∀j u,xs[j]?=some u->w.cell? (ad.add j)=some u)
section
variable {w w' : World} {lo lo' size n : Nat} {A : Option Addr} {xs : List Value}
theorem Sl.nil_:Sl lo w size A 0 []:=⟨Z3,fun h=>absurd h Z0⟩
theorem Sl.mono (h:Sl lo w size A n xs) (j:lo'<=lo):Sl lo' w size A n xs :=
 ⟨h.1,fun o=>let ⟨ad,e,h1,h2,h3⟩:=h.2 o;⟨ad,e,Yg j h1,h2,h3⟩⟩
theorem Sl.keep (h:Sl lo w size A n xs) (hs:w.heap.size<=w'.heap.size) (o:∀p:Addr,lo<=p.block->p.block<w.heap.size->w'.cell? p=w.cell? p):Sl lo w' size A n xs :=
 ⟨h.1,fun q=>let ⟨ad,e,h1,h2,h3⟩:=h.2 q;⟨ad,e,h1,Yi h2 hs,fun j u r=>(o _ XS (by rw [ax];exact h2)).trans (h3 j u r)⟩⟩
theorem Sl.below (h:Sl lo w size A n xs) (j:Below w.heap.size w w'):Sl lo w' size A n xs:=h.keep j.size fun _ _ o=>j.cell o
theorem Sl.drewN (h:Sl lo w size A n xs) (k:Nat):Sl lo (w.drewN k) size A n xs:=h
theorem Sl.drew (h:Sl lo w size A n xs):Sl lo w.drew size A n xs:=h
theorem Sl.alloc (h:Sl lo w size A n xs) (o:Obj):Sl lo (w.alloc o) size A n xs:=h.below ((Below.refl _ _).alloc (Y2 _) o)
theorem Sl.setCell (h:Sl lo w size A n xs) (hp:p.block<lo) (u:Value):Sl lo (w.setCell p u) size A n xs :=
 h.keep (by simp [World.setCell]) fun q j _=>World.cell?_setCell_other w p q u (fun e=>by subst e;omega)
theorem Sl.reads (h:Sl lo w size A n xs):Reads w w.heap.size size A n xs :=
 ⟨h.1,fun j=>let ⟨ad,e,_,h2,h3⟩:=h.2 j;⟨ad,e,h2,h3⟩⟩
theorem Sl.of_reads (h:Reads w w.heap.size size A n xs):Sl 0 w size A n xs :=
 ⟨h.1,fun j=>let ⟨ad,e,h2,h3⟩:=h.2 j;⟨ad,e,Yb _,h2,h3⟩⟩
theorem Sl.at_ (h:Sl lo w 1 A n xs) (v:k<n):∃j u,A=some j/\lo<=j.block/\j.block<w.heap.size/\xs[k]?=some u/\w.cell? (j.add k)=some u:=by
 obtain ⟨j,e,p,q,r⟩:=h.2 Z0;have o:k<xs.length:=by have:=h.1;omega
 exact ⟨j,xs[k],e,p,q,Y1 o,r k _ (Y1 o)⟩
end
theorem cu (g j:Nat):(⟨g,0,none⟩:Addr).add j=⟨g,j,none⟩:=by unfold Addr.add;split <;> simp_all
def Strs (lo:Nat) (w:World) (v:Value) (ss:List ByteArray):Prop:=∃A c,v=.slice A ss.length c/\Sl lo w 1 A ss.length (ss.map Value.string)
theorem Strs.below {lo:Nat} {w w':World} (h:Strs lo w v ss) (j:Below w.heap.size w w'):Strs lo w' v ss:=by
 obtain ⟨A,c,e,o⟩:=h;exact ⟨A,c,e,o.below j⟩
theorem Strs.alloc {lo:Nat} {w:World} (h:Strs lo w v ss) (o:Obj):Strs lo (w.alloc o) v ss:=h.below ((Below.refl _ _).alloc (Y2 _) o)
theorem Strs.mono {lo lo':Nat} {w:World} (h:Strs lo w v ss) (j:lo'<=lo):Strs lo' w v ss:=by
 obtain ⟨A,c,e,o⟩:=h;exact ⟨A,c,e,o.mono j⟩
theorem Sl.str {lo:Nat} {w:World} {A:Option Addr} (h:Sl lo w 1 A ss.length (ss.map Value.string)) (o:k<ss.length) :
  ∃j,A=some j/\j.block<w.heap.size/\w.cell? (j.add k)=some (.string ss[k]):=by
 obtain ⟨j,u,q,_,r,p,v⟩:=h.at_ o;simp only [Yt,Y1 o,Option.map_some,Option.some.injEq] at p;subst p;exact ⟨j,q,r,v⟩
theorem Blk.strs {lo:Nat} {w:World} {g:Nat} {t:TypeId} (h:Blk w g t (ss.map Value.string).toArray) (o:lo<=g) (c:Nat):Strs lo w (.slice (some ⟨g,0,none⟩) ss.length c) ss:=by
 refine ⟨_,_,rfl,Z3,fun _=>⟨_,rfl,o,h.lt,fun j u p=>?_⟩⟩;rw [cu,h.cell j];simpa using p
theorem bR (w:World) (t:TypeId) (ss:List ByteArray) (v:Value) (h:v=.slice (some ⟨w.heap.size,0,none⟩) ss.length ss.length):Strs w.heap.size (w.alloc (.cells (ss.map Value.string).toArray t)) v ss:=by
 subst h;exact (Blk.new w t _).strs (Y2 _) _
theorem zy {W w1:World} (j:Below W.heap.size W w1):(∀b o,b<W.heap.size->w1.cell? ⟨b,o,none⟩=W.cell? ⟨b,o,none⟩)/\(∀b o,b<W.heap.size->w1.frozen? ⟨b,o,none⟩=W.frozen? ⟨b,o,none⟩) :=
 ⟨fun b o h=>j.cell (p:=⟨b,o,none⟩) h,fun b o h=>j.frozen (p:=⟨b,o,none⟩) h⟩
theorem hide {p:Prop} (h:p):Hid p:=h
theorem oN {k:IntKind} {a b:Int} (h:a=b):Ending.returned (.int k a)=.returned (.int k b):=by rw [h]
theorem gD {a b:Bool} (h:a=b):Ending.returned (.bool a)=.returned (.bool b):=by rw [h]
theorem rR {α:Type} {P:α->Prop} {c:Prop} [Decidable c] {a b:α} (h:P a) (j:P b):P (if c then a else b):=by split <;> assumption
theorem jA {w w':World} {B:Nat} {j:Addr} {u:Value} (o:Below B w w') (h:j.block<B) (q:w.cell? (j.add i)=some u):w'.cell? (j.add i)=some u :=
 (o.cell (p:=j.add i) (by rw [ax];exact h)).trans q
theorem below_drewN {B:Nat} {w:World} (h:Below B a w) (n:Nat):Below B a (w.drewN n):=⟨h.os,h.tape,h.output,h.size,h.block⟩
def p8 (w:World) (os:List Obj):World:=os.foldl World.alloc w
theorem qZ (w:World) (os:List Obj):Below w.heap.size w (p8 w os):=by
 induction os generalizing w with
 | nil=>exact Below.refl _ _
 | cons o os ih =>
  have h:=ih (w.alloc o);exact ((Below.refl _ _).alloc (Y2 _) o).trans (h.mono Z3)
theorem yw (w:World) (os:List Obj) {o:Obj} (h:os[k]?=some o):(p8 w os).heap[w.heap.size+k]?=some o:=by
 induction os generalizing w k with
 | nil=>simp at h
 | cons o' os ih =>
  show (p8 (w.alloc o') os).heap[_]?=_
  cases k with
  | zero =>
   have j:=(qZ (w.alloc o') os).block w.heap.size Z3;simp only [Q1,Option.some.injEq] at h;subst h;rw [Nat.add_zero,j];exact heap_alloc_new w _
  | succ k =>
   have:=ih (w.alloc o') (k:=k) Xx;rw [<-this];congr 1;simp;omega
theorem nU {w:World} {a:Addr} {j:Nat} (h:w.cell? (a.add (i+(j+1)))=some v):w.cell? ⟨(a.add i).block,(a.add i).off+(j+1),none⟩=some v:=by
 rw [<-qp] at h;exact h
theorem o9 {a b:ByteArray} (h:a.toList=b.toList):a=b:=by
 rw [ByteArray.toList_eq,ByteArray.toList_eq] at h;rw [<-Lib.mk_data a,<- Lib.mk_data b,h]
theorem eX {a b:ByteArray} (h:a≠b):(a.toList == b.toList)=false:=by
 rw [Y3];exact fun e=>h (o9 e)
theorem vT {a b:ByteArray} (h:a=b):(a.toList == b.toList)=true:=by rw [h];simp

theorem Fu:(⟨#[]⟩:ByteArray).toList=[]:=ByteArray.toList_eq _
theorem iJ {a:ByteArray} (h:a≠⟨#[]⟩):a.toList.isEmpty=false:=by
 have:=eX h;rw [Bool.eq_false_iff];intro e;rw [List.isEmpty_iff] at e;exact h (o9 (by rw [e,Fu]))
theorem ku (h:Below a.heap.size a b) (k:Below b.heap.size b c):Below a.heap.size a c:=h.trans (k.mono h.size)
theorem BF (w:World) (xs:List Int) (n b:Nat) (q:xs.length=n) (p:b=w.heap.size) (C:Array Value) (o:C=(xs.map (Value.int .u8)).toArray) (t:TypeId) :
  (convert 211 9 (.slice (some ⟨b,0,none⟩) n n)).run prog (w.alloc (.cells C t))=.ok (.string (strOfNums xs)) (w.alloc (.cells C t)):=by
 subst p o;refine run_convert_bytes_arg _ 211 5 underlying211 underlying5 _ 0 n n xs q (fun i hi=>?_) 9 underlying9;have h:=(Blk.new w t (xs.map (Value.int .u8)).toArray).cell i;rw [Nat.zero_add,h];have j:i<xs.length:=Z0;simp [Yt,Y1 j,List.getD]
@[go_sem] theorem Wq (w:World) (b:Nat) (a0:Int) (t:TypeId) (hb:b=w.heap.size) :
  (convert 211 9 (.slice (some ⟨b,0,none⟩) 1 1)).run prog (w.alloc (.cells #[.int .u8 a0] t))=.ok (.string (strOfNums [a0])) (w.alloc (.cells #[.int .u8 a0] t)) :=
 BF w [a0] 1 b rfl hb _ rfl t
@[go_sem] theorem Wo (w:World) (b:Nat) (a0 a1 a2 a3:Int) (t:TypeId) (hb:b=w.heap.size) :
  (convert 211 9 (.slice (some ⟨b,0,none⟩) 4 4)).run prog (w.alloc (.cells #[.int .u8 a0,.int .u8 a1,.int .u8 a2,.int .u8 a3] t))=.ok (.string (strOfNums [a0,a1,a2,a3])) (w.alloc (.cells #[.int .u8 a0,.int .u8 a1,.int .u8 a2,.int .u8 a3] t)) :=
 BF w [a0,a1,a2,a3] 4 b rfl hb _ rfl t
theorem Bq (W:World) (xs:List Int) (n b c:Nat) (p:xs.length=n) (C:Array Value) (j:C=(xs.map (Value.int .u8)).toArray) (t:TypeId) (o:Blk W b t C) :
  (convert 211 9 (.slice (some ⟨b,0,none⟩) n c)).run prog W=.ok (.string (strOfNums xs)) W:=by
 subst j;refine run_convert_bytes_arg _ 211 5 underlying211 underlying5 _ 0 n c xs p (fun i hi=>?_) 9 underlying9;rw [Nat.zero_add,o.cell i];have h:i<xs.length:=Z0;simp [Yt,Y1 h,List.getD]
@[go_sem] theorem V9 (w:World) (b:Nat) (a0:Int) (t:TypeId) (hb:b=w.heap.size) :
  (convert 211 9 (.slice (some ⟨b,0,none⟩) 1 1)).run prog (w.alloc (.cells #[.int .u8 a0] t)).drew=.ok (.string (strOfNums [a0])) (w.alloc (.cells #[.int .u8 a0] t)).drew:=by
 subst hb;exact Bq _ [a0] 1 _ 1 rfl _ rfl t (Blk.drew (Blk.new w t _))
@[go_sem] theorem V6 (w:World) (b:Nat) (a0 a1 a2 a3:Int) (t:TypeId) (hb:b=w.heap.size) :
  (convert 211 9 (.slice (some ⟨b,0,none⟩) 4 4)).run prog (w.alloc (.cells #[.int .u8 a0,.int .u8 a1,.int .u8 a2,.int .u8 a3] t)).drew=.ok (.string (strOfNums [a0,a1,a2,a3])) (w.alloc (.cells #[.int .u8 a0,.int .u8 a1,.int .u8 a2,.int .u8 a3] t)).drew:=by
 subst hb;exact Bq _ [a0,a1,a2,a3] 4 _ 4 rfl _ rfl t (Blk.drew (Blk.new w t _))
@[go_sem] theorem UW (a:Int):(strOfNums [a]).size=1:=strOfNums_size _
@[go_sem] theorem UV (a b c d:Int):(strOfNums [a,b,c,d]).size=4:=strOfNums_size _
@[go_sem] theorem VS (a b:ByteArray):(a++b).size=a.size+b.size:=Yj
theorem aL {w:World} (h:a.grownBy w row) (n:Nat):a.grownBy (w.drewN n) row:=⟨h.os,h.tape,h.output,h.size,h.block⟩
theorem bO {w:World} (h:a.grownBy w row):a.grownBy w.drew row:=⟨h.os,h.tape,h.output,h.size,h.block⟩
theorem dK {w:World} (h:a.grownBy w row) (o:Obj):a.grownBy (w.alloc o) row :=
 ⟨h.os,h.tape,h.output,Yg h.size Z3,fun i hi j=>(Below.heap_alloc w o i (Yi hi h.size)).trans (h.block i hi j)⟩
theorem ah {w:World} {g:Nat} (h:a.grownBy w (some g)) (hp:p.block=g\/a.heap.size<=p.block) (u:Value):a.grownBy (w.setCell p u) (some g) :=
 ⟨h.os,h.tape,h.output,by simpa [World.setCell] using h.size,fun i hi j=>(Below.heap_setCell w p u i (by
  rintro rfl;rcases hp with hp | hp
  ·exact j (by rw [hp])
  ·omega)).trans (h.block i hi j)⟩
theorem ag {w:World} (h:Below a.heap.size a w) (row:Option Nat):a.grownBy w row:=⟨h.os,h.tape,h.output,h.size,fun i hi _=>h.block i hi⟩
theorem az (w:World) (row:Option Nat):w.grownBy w row:=ag (Below.refl _ _) row
theorem aj (h:a.grownBy b row) (k:b.grownBy c row):a.grownBy c row :=
 ⟨k.os.trans h.os,k.tape.trans h.tape,k.output.trans h.output,Yg h.size k.size,fun i hi j=>(k.block i (Yi hi h.size) j).trans (h.block i hi j)⟩
theorem Lx (h:Below a.heap.size a b) (o:Obj):Below a.heap.size a (b.alloc o):=h.alloc h.size o
theorem ae {B:Nat} {w w':World} (h:Below B w w':=by (repeat (first | exact Below.refl _ _ | refine below_drewN ?_ _ | refine Below.drew ?_ | refine Below.alloc ?_ (by first | omega | (simp;done) | (simp;omega)) _ | refine Below.setCell ?_ (by first | omega | (simp;done) | (simp;omega)) _ | refine Lx ?_ _ | refine ku ?_ (by assumption) | refine Below.trans ?_ (Below.mono (by assumption) (by first | omega | (simp;done) | (simp;omega)))))):Below B w w':=h
theorem data_append (a b:ByteArray):(a++b).data.toList=a.data.toList++b.data.toList:=Z3
theorem FO {B g:Nat} (h:Below B a b) (k:b.grownBy c (some g)) (j:B<=g) (o:B<=b.heap.size):Below B a c :=
 h.trans ⟨k.os,k.tape,k.output,k.size,fun i hi=>k.block i Z0 (by simp;omega)⟩
theorem Blk.only {w w':World} {g o:Nat} {t:TypeId} {cs:Array Value} (h:Blk w g t cs) (k:w.grownBy w' (some o)) (j:g≠o):Blk w' g t cs :=
 h.grown k (by simpa using j)
end Go.Proofs.YtnhekaepgpbijaaGreatDoor
namespace Go.Proofs.YtnhekaepgpbijaaGreatDoor
open Go.Proofs.Tryz Go.RowKit Go.Extern.Stop Go.Stop Go.Extern
variable {p_:Prop}
theorem uj (t:Addr) (w:World):(ReflectliteValue.unpack (.iface 264 (.pointer (some t)))).run prog w=.ok (.agg #[.pointer (some ⟨9,264,none⟩),.pointer (some ⟨w.heap.size,0,none⟩),.int .u64 150]) (w.alloc (.cells #[.pointer (some t)] 264)):=Z1
theorem Du (t:Addr) (w:World):(ReflectliteValue.unpack (.iface 265 (.pointer (some t)))).run prog w=.ok (.agg #[.pointer (some ⟨9,265,none⟩),.pointer (some ⟨w.heap.size,0,none⟩),.int .u64 150]) (w.alloc (.cells #[.pointer (some t)] 265)):=Z1
theorem ES (t:Addr) (w:World):(ReflectliteValue.unpack (.iface 168 (.pointer (some t)))).run prog w=.ok (.agg #[.pointer (some ⟨9,168,none⟩),.pointer (some ⟨w.heap.size,0,none⟩),.int .u64 150]) (w.alloc (.cells #[.pointer (some t)] 168)):=Z1
theorem FX (k:Int) (w:World):(ReflectliteValue.unpack (.iface 43 (.int .i64 k))).run prog w=.ok (.agg #[.pointer (some ⟨9,43,none⟩),.pointer (some ⟨w.heap.size,0,none⟩),.int .u64 130]) (w.alloc (.cells #[.int .i64 k] 43)):=Z1
theorem DJ (a:Addr) (w:World):(ReflectliteValue.methodAny (ReflectliteValue.valueError "reflectlite.Value.Type" 0) (fun t _ _ _=>ReflectliteType.toType t) #[.agg #[.pointer (some ⟨9,264,none⟩),.pointer (some a),.int .u64 150]]).run prog w=.ok (.iface 331 (.agg #[.pointer (some ⟨9,264,none⟩)])) (w):=Z1
theorem Ob (a:Addr) (w:World):(ReflectliteValue.methodAny (ReflectliteValue.valueError "reflectlite.Value.Type" 0) (fun t _ _ _=>ReflectliteType.toType t) #[.agg #[.pointer (some ⟨9,265,none⟩),.pointer (some a),.int .u64 150]]).run prog w=.ok (.iface 331 (.agg #[.pointer (some ⟨9,265,none⟩)])) (w):=Z1
theorem Bo (h:Value) (w:World):(Go.method 527 331 (.agg #[h]) "Kind").run prog w=.ok (373,h) (w):=Z1
theorem Ag (h:Value) (w:World):(Go.method 527 331 (.agg #[h]) "Elem").run prog w=.ok (387,.agg #[h]) (w):=Z1
theorem Aa (h:Value) (w:World):(Go.method 527 331 (.agg #[h]) "Implements").run prog w=.ok (388,.agg #[h]) (w):=Z1
theorem Ff (h:Value) (w:World):(Go.method 527 331 (.agg #[h]) "AssignableTo").run prog w=.ok (385,.agg #[h]) (w):=Z1
theorem BB (w:World):((ReflectliteType.abiMethod fun t=>(fun a:Nat=>Value.int IntKind.u8 (a:Int)) <$> Rtype.kind t) #[.pointer (some ⟨9,264,none⟩)]).run prog w=.ok (.int .u8 22) (w):=Z1
theorem NJ (w:World):((ReflectliteType.abiMethod fun t=>(fun a:Nat=>Value.int IntKind.u8 (a:Int)) <$> Rtype.kind t) #[.pointer (some ⟨9,265,none⟩)]).run prog w=.ok (.int .u8 22) (w):=Z1
theorem Ik (w:World):((ReflectliteType.abiMethod fun t=>(fun a:Nat=>Value.int IntKind.u8 (a:Int)) <$> Rtype.kind t) #[.pointer (some ⟨9,168,none⟩)]).run prog w=.ok (.int .u8 22) (w):=Z1
theorem RO (w:World):((ReflectliteType.abiMethod fun t=>(fun a:Nat=>Value.int IntKind.u8 (a:Int)) <$> Rtype.kind t) #[.pointer (some ⟨9,43,none⟩)]).run prog w=.ok (.int .u8 2) (w):=Z1
theorem CQ (w:World):(ReflectliteType.method ReflectliteType.elem #[.agg #[.pointer (some ⟨9,264,none⟩)]]).run prog w=.ok (.iface 331 (.agg #[.pointer (some ⟨9,168,none⟩)])) (w):=Z1
theorem Nj (w:World):(ReflectliteType.method ReflectliteType.elem #[.agg #[.pointer (some ⟨9,265,none⟩)]]).run prog w=.ok (.iface 331 (.agg #[.pointer (some ⟨9,43,none⟩)])) (w):=Z1
theorem Il (w:World):(ReflectliteType.relation "Implements" ReflectliteType.implements_ #[.agg #[.pointer (some ⟨9,168,none⟩)],.iface 331 (.agg #[.pointer (some ⟨9,41,none⟩)])]).run prog w=.ok (.bool true) (w):=Z1
theorem yH (v:Value) (w:World):(ReflectliteType.typeOf #[.iface 168 v]).run prog w=.ok (.iface 331 (.agg #[.pointer (some ⟨9,168,none⟩)])) (w):=Z1
theorem QF (w:World):(ReflectliteType.relation "Implements" ReflectliteType.implements_ #[.agg #[.pointer (some ⟨9,43,none⟩)],.iface 331 (.agg #[.pointer (some ⟨9,41,none⟩)])]).run prog w=.ok (.bool true) (w):=Z1
theorem yz (v:Value) (w:World):(ReflectliteType.typeOf #[.iface 43 v]).run prog w=.ok (.iface 331 (.agg #[.pointer (some ⟨9,43,none⟩)])) (w):=Z1
theorem QC (w:World):(ReflectliteType.relation "AssignableTo" ReflectliteType.assignableTo #[.agg #[.pointer (some ⟨9,168,none⟩)],.iface 331 (.agg #[.pointer (some ⟨9,168,none⟩)])]).run prog w=.ok (.bool true) (w):=Z1
theorem RG (w:World):(ReflectliteType.relation "AssignableTo" ReflectliteType.assignableTo #[.agg #[.pointer (some ⟨9,168,none⟩)],.iface 331 (.agg #[.pointer (some ⟨9,43,none⟩)])]).run prog w=.ok (.bool false) (w):=Z1
theorem QE (w:World):(ReflectliteType.relation "AssignableTo" ReflectliteType.assignableTo #[.agg #[.pointer (some ⟨9,43,none⟩)],.iface 331 (.agg #[.pointer (some ⟨9,168,none⟩)])]).run prog w=.ok (.bool false) (w):=Z1
theorem RA (w:World):(ReflectliteType.relation "AssignableTo" ReflectliteType.assignableTo #[.agg #[.pointer (some ⟨9,43,none⟩)],.iface 331 (.agg #[.pointer (some ⟨9,43,none⟩)])]).run prog w=.ok (.bool true) (w):=Z1
theorem ze (a:Addr) (w:World):(ReflectliteValue.parts (.agg #[.pointer (some ⟨9,264,none⟩),.pointer (some a),.int .u64 150])).run prog w=.ok (some (264,a,150)) (w):=Z1
theorem yC (a:Addr) (w:World):(ReflectliteValue.parts (.agg #[.pointer (some ⟨9,265,none⟩),.pointer (some a),.int .u64 150])).run prog w=.ok (some (265,a,150)) (w):=Z1
theorem ND (a:Addr) (w:World):(ReflectliteValue.parts (.agg #[.pointer (some ⟨9,168,none⟩),.pointer (some a),.int .u64 150])).run prog w=.ok (some (168,a,150)) (w):=Z1
theorem Lv (a:Addr) (w:World):(ReflectliteValue.parts (.agg #[.pointer (some ⟨9,168,none⟩),.pointer (some a),.int .u64 406])).run prog w=.ok (some (168,a,406)) (w):=Z1
theorem Od (a:Addr) (w:World):(ReflectliteValue.parts (.agg #[.pointer (some ⟨9,43,none⟩),.pointer (some a),.int .u64 130])).run prog w=.ok (some (43,a,130)) (w):=Z1
theorem KR (a:Addr) (w:World):(ReflectliteValue.parts (.agg #[.pointer (some ⟨9,43,none⟩),.pointer (some a),.int .u64 386])).run prog w=.ok (some (43,a,386)) (w):=Z1
theorem Kc (w:World):(Rtype.elem? 264).run prog w=.ok (some 168) (w):=Z1
theorem U6 (p:Addr) (w:World):(ReflectliteValue.mk 168 p ReflectliteValue.flagAddr).run prog w=.ok (.agg #[.pointer (some ⟨9,168,none⟩),.pointer (some p),.int .u64 406]) (w):=Z1
theorem JI (w:World):(Rtype.directlyAssignable 168 168).run prog w=.ok (true) (w):=Z1
theorem Je (w:World):(Rtype.elem? 265).run prog w=.ok (some 43) (w):=Z1
theorem VO (p:Addr) (w:World):(ReflectliteValue.mk 43 p ReflectliteValue.flagAddr).run prog w=.ok (.agg #[.pointer (some ⟨9,43,none⟩),.pointer (some p),.int .u64 386]) (w):=Z1
theorem JQ (w:World):(Rtype.directlyAssignable 43 43).run prog w=.ok (true) (w):=Z1
theorem rlm (z:Sem Value) (f:TypeId->Addr->Nat->Nat->Sem Value) (v:Value) :
  ReflectliteValue.method z f #[v]=(do match<-ReflectliteValue.parts v with | none=>z | some (t,a,fl)=>f t a fl (fl % 32)):=rfl
theorem rls (v x:Value):ReflectliteValue.set #[v,x]=(do
  let (some (dst,a,fl),some (src,b,_)):=(<- ReflectliteValue.parts v,<- ReflectliteValue.parts x)
   | unsupported (.noEntry "extern/(internal/reflectlite.Value).Set.zeroValue")
  if fl / ReflectliteValue.flagAddr % 2 == 0 then unsupported (.noEntry "extern/(internal/reflectlite.Value).Set.unaddressable")
  let val<-loadVar src b
  if<-Rtype.directlyAssignable dst src then storeVar dst a val
  else if<-Rtype.implements dst src then
   if (<- Rtype.kind src) == 20 then
    match val with
    | .nilIface=>unsupported (.noEntry "extern/reflectlite: a nil value of one interface type handed on as a value of another")
    | _=>storeVar dst a val
   else storeVar dst a (.iface src val)
  else panicString ("reflectlite.Set: value of type " ++ (<- Rtype.spelt src) ++ " is not assignable to type " ++ (<- Rtype.spelt dst))
  pure (.tuple #[])):=rfl
theorem C8 (a p:Addr) (W:World) (g:W.cell? a=some (.pointer (some p))) :
  (ReflectliteValue.method (ReflectliteValue.valueError "reflectlite.Value.IsNil" 0) ReflectliteValue.isNil #[.agg #[.pointer (some ⟨9,264,none⟩),.pointer (some a),.int .u64 150]]).run prog W=.ok (.bool false) W:=by
 rw [rlm];simp only [Sem.run_bind,ze,Result.andThen];simp [ReflectliteValue.isNil,loadVar,isAgg,underlying,underlying264,g,Result.andThen]
theorem Cs (a p:Addr) (W:World) (g:W.cell? a=some (.pointer (some p))) :
  (ReflectliteValue.method (ReflectliteValue.valueError "reflectlite.Value.Elem" 0) ReflectliteValue.elem #[.agg #[.pointer (some ⟨9,264,none⟩),.pointer (some a),.int .u64 150]]).run prog W
   = .ok (.agg #[.pointer (some ⟨9,168,none⟩),.pointer (some p),.int .u64 406]) W:=by
 rw [rlm];simp only [Sem.run_bind,ze,Result.andThen];simp [ReflectliteValue.elem,loadVar,isAgg,underlying,underlying264,g,Result.andThen,Kc,U6]
theorem OL (a p:Addr) (W:World) (g:W.cell? a=some (.pointer (some p))) :
  (ReflectliteValue.method (ReflectliteValue.valueError "reflectlite.Value.IsNil" 0) ReflectliteValue.isNil #[.agg #[.pointer (some ⟨9,265,none⟩),.pointer (some a),.int .u64 150]]).run prog W=.ok (.bool false) W:=by
 rw [rlm];simp only [Sem.run_bind,yC,Result.andThen];simp [ReflectliteValue.isNil,loadVar,isAgg,underlying,underlying265,g,Result.andThen]
theorem MV (a p:Addr) (W:World) (g:W.cell? a=some (.pointer (some p))) :
  (ReflectliteValue.method (ReflectliteValue.valueError "reflectlite.Value.Elem" 0) ReflectliteValue.elem #[.agg #[.pointer (some ⟨9,265,none⟩),.pointer (some a),.int .u64 150]]).run prog W
   = .ok (.agg #[.pointer (some ⟨9,43,none⟩),.pointer (some p),.int .u64 386]) W:=by
 rw [rlm];simp only [Sem.run_bind,yC,Result.andThen];simp [ReflectliteValue.elem,loadVar,isAgg,underlying,underlying265,g,Result.andThen,Je,VO]
theorem Un (g b e:Addr) (old:Value) (W:World) (h:W.cell? b=some (.pointer (some e))) (o:W.cell? g=some old) (j:W.frozen? g=false) :
  (ReflectliteValue.set #[.agg #[.pointer (some ⟨9,168,none⟩),.pointer (some g),.int .u64 406],.agg #[.pointer (some ⟨9,168,none⟩),.pointer (some b),.int .u64 150]]).run prog W=.ok (.tuple #[]) (W.setCell g (.pointer (some e))):=by
 rw [rls];simp only [Sem.run_bind,Lv,ND,Result.andThen];simp [ReflectliteValue.flagAddr,loadVar,isAgg,underlying,underlying168,h,Result.andThen,JI,storeVar,Value.cells,storeCells,Addr.add];rw [run_store prog W g _ _ Z5];simp [o,j]
theorem TS (g b:Addr) (k:Int) (old:Value) (W:World) (h:W.cell? b=some (.int .i64 k)) (o:W.cell? g=some old) (j:W.frozen? g=false) :
  (ReflectliteValue.set #[.agg #[.pointer (some ⟨9,43,none⟩),.pointer (some g),.int .u64 386],.agg #[.pointer (some ⟨9,43,none⟩),.pointer (some b),.int .u64 130]]).run prog W=.ok (.tuple #[]) (W.setCell g (.int .i64 k)):=by
 rw [rls];simp only [Sem.run_bind,KR,Od,Result.andThen];simp [ReflectliteValue.flagAddr,loadVar,isAgg,underlying,underlying43,h,Result.andThen,JQ,storeVar,Value.cells,storeCells,Addr.add];rw [run_store prog W g _ _ Z5];simp [o,j]
theorem QP (v:Value) (g:TypeId) (w:World):(Instr.typeAssert (.iface 168 v) g 336 true).run prog w=.ok (.tuple #[.nilIface,.bool false]) w:=run_typeAssert_lacksB underlying336 Z1 Z1 v g w
theorem Ir (v:Value) (g:TypeId) (w:World):(Instr.typeAssert (.iface 43 v) g 336 true).run prog w=.ok (.tuple #[.nilIface,.bool false]) w:=run_typeAssert_lacksB underlying336 Z1 Z1 v g w
theorem Rn (v:Value) (g:TypeId) (w:World):(Instr.typeAssert (.iface 168 v) g 339 true).run prog w=.ok (.tuple #[.iface 168 v,.bool true]) w:=run_typeAssert_hasB underlying339 Z1 v g w
theorem Sy (v:Value) (g:TypeId) (w:World):(Instr.typeAssert (.iface 43 v) g 339 true).run prog w=.ok (.tuple #[.nilIface,.bool false]) w:=run_typeAssert_lacksB underlying339 Z1 Z1 v g w
theorem Tg (v:Value) (g:TypeId) (w:World):(Instr.typeAssert (.iface 43 v) g 340 true).run prog w=.ok (.tuple #[.nilIface,.bool false]) w:=run_typeAssert_lacksB underlying340 Z1 Z1 v g w
theorem Ve (e:Addr) (w:World):(Go.method 527 168 (.pointer (some e)) "Unwrap").run prog w=.ok (379,.pointer (some e)) (w):=Z1
def Hand (w:World):Prop:=w.cell? ⟨1,0,none⟩=some (.iface 331 (.agg #[.pointer (some ⟨9,41,none⟩)]))
theorem Hand.lt {w:World} (h:Hand w):1<w.heap.size:=World.block_lt_of_cell? w ⟨1,0,none⟩ h
theorem Hand.below {w w':World} (h:Hand w) (g:Below w.heap.size w w'):Hand w':=(g.cell (p:=⟨1,0,none⟩) h.lt).trans h
section
variable {w : World}
theorem zz5cf (h_:p_:=by
 rcases Nat.lt_or_ge t.block w.heap.size with h | h
 ·exact h
 ·simp [World.cell?,Array.getElem?_eq_none h] at ht0):p_:=h_
theorem zz1cf (h_:p_:=by
 rw [World.cell?_alloc_lt _ _ ⟨1,0,none⟩ (by first | (simp;done) | (simp;omega)),World.cell?_alloc_lt _ _ ⟨1,0,none⟩ hlt];exact hg):p_:=h_
theorem Sr (e t:Addr) (old:Value) (hg:Hand w) (ht0:w.cell? t=some old) (hf0:w.frozen? t=false) :
  Calls prog 187 #[.iface 168 (.pointer (some e)),.iface 264 (.pointer (some t))] w fun ev w'=>ev=.returned (.bool true)/\∃W,Below w.heap.size w W/\w'=W.setCell t (.pointer (some e)):=by
 have j:=@run_callFunc_extern prog 249 _ (fun args=>ReflectliteValue.unpack (args.getD 0 (.tuple #[]))) func249 Z1 Z1 Z1 Z1;have o:=@run_callFunc_extern prog 250 _ (ReflectliteValue.methodAny (ReflectliteValue.valueError "reflectlite.Value.Type" 0) (fun t _ _ _=>ReflectliteType.toType t)) func250 Z1 Z1 Z1 Z1;have p:=@run_callFunc_extern prog 251 _ (ReflectliteValue.method (ReflectliteValue.valueError "reflectlite.Value.IsNil" 0) ReflectliteValue.isNil) func251 Z1 Z1 Z1 Z1;have v:=@run_callFunc_extern prog 373 _ (ReflectliteType.abiMethod fun t=>do pure (.int .u8 (<- Rtype.kind t))) func373 Z1 Z1 Z1 Z1;have A:=@run_callFunc_extern prog 387 _ (ReflectliteType.method ReflectliteType.elem) func387 Z1 Z1 Z1 Z1;have B:=@run_callFunc_extern prog 388 _ (ReflectliteType.relation "Implements" ReflectliteType.implements_) func388 Z1 Z1 Z1 Z1;have q:=@run_callFunc_extern prog 288 _ ReflectliteType.typeOf func288 Z1 Z1 Z1 Z1;have z:=@run_callFunc_extern prog 385 _ (ReflectliteType.relation "AssignableTo" ReflectliteType.assignableTo) func385 Z1 Z1 Z1 Z1;have r:=@run_callFunc_extern prog 289 _ (ReflectliteValue.method (ReflectliteValue.valueError "reflectlite.Value.Elem" 0) ReflectliteValue.elem) func289 Z1 Z1 Z1 Z1;have u:=@run_callFunc_extern prog 290 _ ReflectliteValue.set func290 Z1 Z1 Z1 Z1;have T:=yH;have G:=QC;have U:=ES;have J:=uj;have K:=DJ;have F:=BB;have N:=Ik;have C:=CQ;have L:=Il;have O:=Ff;have R:=Bo;have P:=Ag;have Q:=Aa;have hlt:=hg.lt
 have htl:t.block<w.heap.size:=by
  exact zz5cf
 have S:=C8 ⟨w.heap.size,0,none⟩ t ((w.alloc (.cells #[.pointer (some t)] 264)).alloc (.cells #[.pointer (some ⟨9,264,none⟩),.pointer (some ⟨w.heap.size,0,none⟩),.int .u64 150] 300)) Z3
 have D:((w.alloc (.cells #[.pointer (some t)] 264)).alloc (.cells #[.pointer (some ⟨9,264,none⟩),.pointer (some ⟨w.heap.size,0,none⟩),.int .u64 150] 300)).cell? ⟨1,0,none⟩=some (.iface 331 (.agg #[.pointer (some ⟨9,41,none⟩)])):=by
  exact zz1cf
 have I:=Cs ⟨w.heap.size,0,none⟩ t (((w.alloc (.cells #[.pointer (some t)] 264)).alloc (.cells #[.pointer (some ⟨9,264,none⟩),.pointer (some ⟨w.heap.size,0,none⟩),.int .u64 150] 300)).alloc (.cells #[.pointer (some ⟨9,264,none⟩),.pointer (some ⟨w.heap.size,0,none⟩),.int .u64 150] 300)) ZN
 have st:=Un t ⟨w.heap.size+1+1+1,0,none⟩ e old ((((w.alloc (.cells #[.pointer (some t)] 264)).alloc (.cells #[.pointer (some ⟨9,264,none⟩),.pointer (some ⟨w.heap.size,0,none⟩),.int .u64 150] 300)).alloc (.cells #[.pointer (some ⟨9,264,none⟩),.pointer (some ⟨w.heap.size,0,none⟩),.int .u64 150] 300)).alloc (.cells #[.pointer (some e)] 168))
  (by rw [World.cell?_alloc_at _ _ _ _ Z3];rfl)
  Zv
  Zo
 have g:Below w.heap.size w ((((w.alloc (.cells #[.pointer (some t)] 264)).alloc (.cells #[.pointer (some ⟨9,264,none⟩),.pointer (some ⟨w.heap.size,0,none⟩),.int .u64 150] 300)).alloc (.cells #[.pointer (some ⟨9,264,none⟩),.pointer (some ⟨w.heap.size,0,none⟩),.int .u64 150] 300)).alloc (.cells #[.pointer (some e)] 168)):=Z4;go_enter func187,ntmps187;go_wp2;refine wp_loop_rounds 1 ?_;rw [rounds_succ];go_wp2;go_ret;exact ⟨rfl,_,g,rfl⟩
theorem Ml (k:Int) (t:Addr) (old:Value) (hg:Hand w) (ht0:w.cell? t=some old) :
  Calls prog 187 #[.iface 43 (.int .i64 k),.iface 264 (.pointer (some t))] w fun ev w'=>ev=.returned (.bool false)/\Below w.heap.size w w':=by
 have j:=@run_callFunc_extern prog 249 _ (fun args=>ReflectliteValue.unpack (args.getD 0 (.tuple #[]))) func249 Z1 Z1 Z1 Z1;have o:=@run_callFunc_extern prog 250 _ (ReflectliteValue.methodAny (ReflectliteValue.valueError "reflectlite.Value.Type" 0) (fun t _ _ _=>ReflectliteType.toType t)) func250 Z1 Z1 Z1 Z1;have p:=@run_callFunc_extern prog 251 _ (ReflectliteValue.method (ReflectliteValue.valueError "reflectlite.Value.IsNil" 0) ReflectliteValue.isNil) func251 Z1 Z1 Z1 Z1;have v:=@run_callFunc_extern prog 373 _ (ReflectliteType.abiMethod fun t=>do pure (.int .u8 (<- Rtype.kind t))) func373 Z1 Z1 Z1 Z1;have A:=@run_callFunc_extern prog 387 _ (ReflectliteType.method ReflectliteType.elem) func387 Z1 Z1 Z1 Z1;have B:=@run_callFunc_extern prog 388 _ (ReflectliteType.relation "Implements" ReflectliteType.implements_) func388 Z1 Z1 Z1 Z1;have q:=@run_callFunc_extern prog 288 _ ReflectliteType.typeOf func288 Z1 Z1 Z1 Z1;have z:=@run_callFunc_extern prog 385 _ (ReflectliteType.relation "AssignableTo" ReflectliteType.assignableTo) func385 Z1 Z1 Z1 Z1;have r:=@run_callFunc_extern prog 289 _ (ReflectliteValue.method (ReflectliteValue.valueError "reflectlite.Value.Elem" 0) ReflectliteValue.elem) func289 Z1 Z1 Z1 Z1;have u:=@run_callFunc_extern prog 290 _ ReflectliteValue.set func290 Z1 Z1 Z1 Z1;have U:=yz;have I:=QE;have K:=uj;have L:=DJ;have G:=BB;have O:=Ik;have C:=CQ;have N:=Il;have n1:=Ir;have n2:=Sy;have n3:=Tg;have P:=Ff;have S:=Bo;have Q:=Ag;have R:=Aa;have hlt:=hg.lt
 have F:t.block<w.heap.size:=by
  exact zz5cf
 have T:=C8 ⟨w.heap.size,0,none⟩ t ((w.alloc (.cells #[.pointer (some t)] 264)).alloc (.cells #[.pointer (some ⟨9,264,none⟩),.pointer (some ⟨w.heap.size,0,none⟩),.int .u64 150] 300)) Z3
 have D:((w.alloc (.cells #[.pointer (some t)] 264)).alloc (.cells #[.pointer (some ⟨9,264,none⟩),.pointer (some ⟨w.heap.size,0,none⟩),.int .u64 150] 300)).cell? ⟨1,0,none⟩=some (.iface 331 (.agg #[.pointer (some ⟨9,41,none⟩)])):=by
  exact zz1cf
 have J:=Cs ⟨w.heap.size,0,none⟩ t (((w.alloc (.cells #[.pointer (some t)] 264)).alloc (.cells #[.pointer (some ⟨9,264,none⟩),.pointer (some ⟨w.heap.size,0,none⟩),.int .u64 150] 300)).alloc (.cells #[.pointer (some ⟨9,264,none⟩),.pointer (some ⟨w.heap.size,0,none⟩),.int .u64 150] 300)) ZN;have g:Below w.heap.size w (((w.alloc (.cells #[.pointer (some t)] 264)).alloc (.cells #[.pointer (some ⟨9,264,none⟩),.pointer (some ⟨w.heap.size,0,none⟩),.int .u64 150] 300)).alloc (.cells #[.pointer (some ⟨9,264,none⟩),.pointer (some ⟨w.heap.size,0,none⟩),.int .u64 150] 300)):=Z4;go_enter func187,ntmps187;go_wp2;refine wp_loop_rounds 1 ?_;rw [rounds_succ];go_wp2;go_ret;exact ⟨rfl,g⟩
end
end Go.Proofs.YtnhekaepgpbijaaGreatDoor
namespace Go.Proofs.YtnhekaepgpbijaaGreatDoor
open Go.Proofs.Tryz Go
variable {i j p:Nat} {o oi:Oper} {u v:Value} {g:Array Bool} {a:Act} {w:World} {rs:List Nat} {x:Operand} {K:Act->World->Prop} {F:Prop}
section
variable {P : Program} {ops : Array Oper} {Q : Exit -> Act -> World -> Prop} {md : Region.Mode} {S : World -> Prop} {E : Nat -> Bool}

def fZ (P:Program) (md:Region.Mode) (ops:Array Oper) (Q:Exit->Act->World->Prop) (S:World->Prop) (E:Nat->Bool):Nat->Array Bool->Act->World->Prop
 | 0,listed,a,w=>Region.ready md ops listed=[]/\Q .normal a w
 | fuel+1,listed,a,w =>
  (Region.ready md ops listed=[]->Q .normal a w) /\
  ∀i∈Region.ready md ops listed,wpOp P ops Q i (fun a' w'=>(E i=true->S w')/\fZ P md ops Q S E fuel (listed.setIfInBounds i true) a' w') a w
theorem xK:∀(g:Nat) (listed:Array Bool) (a:Act) (w:World),fZ P md ops Q S E g listed a w->wpAny P md ops Q g listed a w
 | 0,_,_,_,h=>h
 | g+1,_,_,_,h=>⟨h.1,fun i hi=>wpOp_mono (fun j w' o=>xK g _ j w' o.2) (h.2 i hi)⟩
theorem zzf51 {p_:Prop} (h_:p_:=by
 have h1:=hall e he hb;have h0:=(mem_ready.1 hr).1;rw [heq] at h1;rcases Nat.lt_or_ge i listed.size with h' | h'
 ·simp [h'] at h0 h1;rw [h0] at h1;cases h1
 ·simp [Array.getElem?_eq_none h'] at h1):p_:=h_
theorem AO (hi:ops[i]?=some oi) (B:∀(j:Nat) (o:Oper) cs b,ops[j]?=some o->o.op≠.select cs b)
  (U:∀c a w,Q (.panic c) (a.put oi.dst v) w->Q (.panic c) a w) :
  ∀(p:Nat) (listed:Array Bool) (a:Act) (w:World),
   (∀j C,ops[j]?=some C->j≠i->listed.getD j true=false->(∀e∈C.after,Region.binds md e=true->e.on≠i)->oi.apart ops C=true/\E j=true) ->
   i∈Region.ready md ops listed->YieldsIf P ops S oi v a->S w ->
   fZ P md ops Q S E p (listed.setIfInBounds i true) (a.put oi.dst v) w->fZ P md ops Q S E (p+1) listed a w:=by
 intro p
 induction p with
 | zero =>
  intro listed a w _ hr K D H;refine ⟨fun h=>XA,fun j J=>?_⟩
  by_cases g:j=i
  ·subst g;exact K.wpOp hi D ⟨fun _=>D,H⟩
  ·have:=ready_mono J g
   rw [H.1] at this;cases this
 | succ p ih =>
  intro listed a w q hr K D H;refine ⟨fun h=>XA,fun j J=>?_⟩
  by_cases g:j=i
  ·subst g;exact K.wpOp hi D ⟨fun _=>D,H⟩
  ·have h1:=H.2 j (ready_mono J g)
   obtain ⟨r,C,z,hall⟩:=mem_ready.1 J
   have A:∀e∈C.after,Region.binds md e=true->e.on≠i:=fun e he hb heq=>by
    exact zzf51
   have L:=(q j C z g r A).2;have T:=wpOp_putIf z (q j C z g r A).1 (fun cs b=>B i oi cs b hi) (fun cs b=>B j C cs b z) U K h1
   have u:∀k ok,ops[k]?=some ok->k≠i->(listed.setIfInBounds j true).getD k true=false ->
     (∀e∈ok.after,Region.binds md e=true->e.on≠i)->oi.apart ops ok=true/\E k=true:=fun k ok V N G O=>by
    refine q k ok V N ?_ O
    by_cases F:j=k
    ·subst F;exact r
    ·rw [getD_set_ne true F] at G;exact G
   refine wpOp_mono (fun R w' I=>⟨I.2.1,ih (listed.setIfInBounds j true) R w' u (ready_mono hr (Ne.symm g)) I.1 (I.2.1 L) ?_⟩) T;rw [Array.setIfInBounds_comm _ _ g];exact I.2.2
theorem yt (hi:ops[i]?=some oi) (z:∀(j:Nat) (o:Oper) cs b,ops[j]?=some o->o.op≠.select cs b)
  (T:∀c a w,Q (.panic c) (a.put oi.dst v) w->Q (.panic c) a w) (C:E i=false) :
  ∀(g:Nat) (listed:Array Bool) (a:Act) (w:World),
   (∀j B,ops[j]?=some B->j≠i->listed.getD j true=false->(∀e∈B.after,Region.binds md e=true->e.on≠i)->oi.apart ops B=true) ->
   i∈Region.ready md ops listed->YieldsIf P ops (fun _=>True) oi v a ->
   fZ P md ops Q S E g (listed.setIfInBounds i true) (a.put oi.dst v) w->fZ P md ops Q S E (g+1) listed a w:=by
 intro g
 induction g with
 | zero =>
  intro listed a w _ hr J H;refine ⟨fun h=>XA,fun j I=>?_⟩
  by_cases p:j=i
  ·subst p;exact J.wpOp hi trivial ⟨fun h=>(by rw [C] at h;cases h),H⟩
  ·have:=ready_mono I p
   rw [H.1] at this;cases this
 | succ g ih =>
  intro listed a w q hr J H;refine ⟨fun h=>XA,fun j I=>?_⟩
  by_cases p:j=i
  ·subst p;exact J.wpOp hi trivial ⟨fun h=>(by rw [C] at h;cases h),H⟩
  ·have h1:=H.2 j (ready_mono I p)
   obtain ⟨u,B,A,hall⟩:=mem_ready.1 I
   have F:∀e∈B.after,Region.binds md e=true->e.on≠i:=fun e he hb heq=>by
    exact zzf51
   have R:=wpOp_putIf A (q j B A p u F) (fun cs b=>z i oi cs b hi) (fun cs b=>z j B cs b A) T J h1
   have r:∀k ok,ops[k]?=some ok->k≠i->(listed.setIfInBounds j true).getD k true=false ->
     (∀e∈ok.after,Region.binds md e=true->e.on≠i)->oi.apart ops ok=true:=fun k ok U L G N=>by
    refine q k ok U L ?_ N
    by_cases D:j=k
    ·subst D;exact u
    ·rw [getD_set_ne true D] at G;exact G
   refine wpOp_mono (fun O w' K=>⟨K.2.1,ih (listed.setIfInBounds j true) O w' r (ready_mono hr (Ne.symm p)) K.1 ?_⟩) R;rw [Array.setIfInBounds_comm _ _ p];exact K.2.2
def NH (md:Region.Mode) (ops:Array Oper) (E:Nat->Bool) (listed:Array Bool) (i:Nat):Bool :=
 (List.range ops.size).all fun j=>j == i || listed.getD j true || Region.waitsFor md ops j i || E j
theorem Gy (h:NH md ops E g i=true) (j:Nat) (z:Oper) (w:ops[j]?=some z) (q:j≠i) (v:g.getD j true=false) (u:∀e∈z.after,Region.binds md e=true->e.on≠i):E j=true:=by
 unfold NH at h;rw [List.all_eq_true] at h;have r:j<ops.size:=(Array.getElem?_eq_some_iff.1 w).1;have o:=h j (List.mem_range.2 r);simp only [Bool.or_eq_true,beq_iff_eq] at o;rcases o with ((o | o) | o) | o
 ·exact absurd o q
 ·rw [v] at o;cases o
 ·obtain ⟨C,p,e,he,A,B⟩:=Region.waitsFor_spec o
  rw [w] at p;cases p
  exact absurd B (u e he A)
 ·exact o
theorem ak {o:Nat} (hi:ops[i]?=some oi)
  (hs:Region.noSelect ops=true) (C:Region.free md ops g i=true) (F:(Region.ready md ops g).contains i=true) (D:NH md ops E g i=true)
  (A:∀c a w,Q (.panic c) (a.put oi.dst v) w->Q (.panic c) a w) (G:YieldsIf P ops S oi v a) (B:S w)
  (h:fZ P md ops Q S E o (g.setIfInBounds i true) (a.put oi.dst v) w):fZ P md ops Q S E (o+1) g a w :=
 AO hi (Region.noSelect_spec hs) A o g a w (fun j z u p r q=>⟨Region.free_spec hi C j z u p r q,Gy D j z u p r q⟩) (by simpa using F) G B h
theorem aD {o:Nat} (hi:ops[i]?=some oi)
  (hs:Region.noSelect ops=true) (A:Region.free md ops g i=true) (C:(Region.ready md ops g).contains i=true) (u:E i=false)
  (z:∀c a w,Q (.panic c) (a.put oi.dst v) w->Q (.panic c) a w) (D:YieldsIf P ops (fun _=>True) oi v a)
  (h:fZ P md ops Q S E o (g.setIfInBounds i true) (a.put oi.dst v) w):fZ P md ops Q S E (o+1) g a w :=
 yt hi (Region.noSelect_spec hs) z u o g a w (fun j F B p r q=>Region.free_spec hi A j F B p r q) (by simpa using C) D h
theorem cB (o:Region.ready md ops g=[]) (h:Q .normal a w) :
  ∀j,fZ P md ops Q S E j g a w
 | 0=>⟨o,h⟩
 | _+1=>⟨fun _=>h,by rw [o];simp⟩
def ai (P:Program) (md:Region.Mode) (ops:Array Oper) (Q:Exit->Act->World->Prop) (S:World->Prop) (E:Nat->Bool) (fuel:Nat) (listed:Array Bool) (a:Act) (w:World) (rs:List Nat):Prop :=
 ∀i∈rs,wpOp P ops Q i (fun a' w'=>(E i=true->S w')/\fZ P md ops Q S E fuel (listed.setIfInBounds i true) a' w') a w
theorem ai.nil :ai P md ops Q S E j g a w []:=fun _ h=>ZM
theorem ai.cons (A:ops[i]?=some o)
  (h:∀q:Act->World->Prop,Shut (∀a w,S w->(S w->fZ P md ops Q S E p (g.setIfInBounds i true) a w)->q a w)->if Region.wanted o (yielded ops a.tmps)=true then Oper.wp P o a w q Q else q (a.put o.dst undef) w)
  (hs:ai P md ops Q S E p g a w rs):ai P md ops Q S E p g a w (i :: rs):=fun j r=>by
 rcases Yz.1 r with rfl | r
 ·exact wpOp_step A (fun q v=>h q (fun a w u z=>v a w ⟨fun _=>u,z u⟩))
 ·exact hs j r
theorem ai.late (A:ops[i]?=some o) (u:E i=false)
  (h:∀q:Act->World->Prop,Shut (∀a w,fZ P md ops Q S E p (g.setIfInBounds i true) a w->q a w)->if Region.wanted o (yielded ops a.tmps)=true then Oper.wp P o a w q Q else q (a.put o.dst undef) w)
  (hs:ai P md ops Q S E p g a w rs):ai P md ops Q S E p g a w (i :: rs):=fun j r=>by
 rcases Yz.1 r with rfl | r
 ·exact wpOp_step A (fun q v=>h q (fun a w z=>v a w ⟨fun e=>(by rw [u] at e;cases e),z⟩))
 ·exact hs j r
theorem au (p:Region.ready md ops g=rs) (o:rs≠[])
  (h:ai P md ops Q S E j g a w rs):fZ P md ops Q S E (j+1) g a w :=
 ⟨fun q=>absurd (p ▸ q) o,p ▸ h⟩
theorem fJ (S:World->Prop) (E:Nat->Bool) {id:Nat} (g:P.follows .mixedOrders=true)
  (h:fZ P .any ops Q S E ops.size (Array.replicate ops.size false) a w.drew):(Code.region id ops true).wp P Q a w :=
 wp_region_any g (xK _ _ _ _ h)
theorem dw (hgd:o.guard=none) (p:a.eval x=u)
  (j:∀g:Operand->Value,g x=u->(execOp g o).run P w=.ok (.value v) w) (h:K (a.put o.dst v) w):if Region.wanted o (yielded ops a.tmps)=true then Oper.wp P o a w K Q else F:=by
 rw [Y6 ZR];unfold Oper.wp;rw [j a.eval p];exact h
theorem fI (O:Obj) (hgd:o.guard=none) (p:a.eval x=u)
  (j:∀g:Operand->Value,g x=u->(execOp g o).run P w=.ok (.value (.slice (some ⟨w.heap.size,0,none⟩) 1 1)) (w.alloc O)) (h:K (a.put o.dst (.slice (some ⟨w.heap.size,0,none⟩) 1 1)) (w.alloc O)):if Region.wanted o (yielded ops a.tmps)=true then Oper.wp P o a w K Q else F:=by
 rw [Y6 ZR];unfold Oper.wp;rw [j a.eval p];exact h
theorem eO {p:Addr} {y:Operand} (hgd:o.guard=none) (q:a.eval x=u) (r:a.eval y=v)
  (j:∀g:Operand->Value,g x=u->g y=v->(execOp g o).run P w=.ok .skip (w.setCell p v)) (h:K (a.put o.dst undef) (w.setCell p v)):if Region.wanted o (yielded ops a.tmps)=true then Oper.wp P o a w K Q else F:=by
 rw [Y6 ZR];unfold Oper.wp;rw [j a.eval q r];exact h
end
end Go.Proofs.YtnhekaepgpbijaaGreatDoor
namespace Go.Proofs.YtnhekaepgpbijaaGreatDoor
open Go.Proofs.Tryz Go Go.RowKit
variable {o:Oper} {a:Act} {w:World} {G:Value->World->Prop}
section
variable {P : Program} {ops : Array Oper} {Q : Exit -> Act -> World -> Prop} {md : Region.Mode} {S : World -> Prop} {E : Nat -> Bool}
def Mk1 (P:Program) (Q:Exit->Act->World->Prop) (ops:Array Oper) (o:Oper) (a:Act) (w:World) (G:Value->World->Prop):Prop :=
 ∀(K:Act->World->Prop) (F:Prop),(∀v w',Below w.heap.size w w'->G v w'->K (a.put o.dst v) w')->if Region.wanted o (yielded ops a.tmps)=true then Oper.wp P o a w K Q else F
theorem yc (k:Nat) (mk:Nat->Nat) (A:List Value->Act) (L:List Bool->Array Bool) (G:Nat->Value->World->Prop) (B:Nat)
  (hG:∀p v w w',G p v w->Below w.heap.size w w'->G p v w') (hS:∀w w',S w->Below w.heap.size w w'->S w')
  (Z:∀p,p<k->∃o,ops[mk p]?=some o/\∀gs w,gs.length=k->S w->(∀v,(A gs).put o.dst v=A (gs.set p v))/\Mk1 P Q ops o (A gs) w (G p))
  (hL:∀g p,g.length=k->p<k->(L g).setIfInBounds (mk p) true=L (g.set p true))
  (hr:∀g,g.length=k->g.all id=false->Region.ready md ops (L g)≠[]/\∀j∈Region.ready md ops (L g),∃p,p<k/\mk p=j/\g[p]?=some false)
  (I:∀gs w,gs.length=k->S w->(∀p v,gs[p]?=some v->G p v w)->fZ P md ops Q S E B (L (List.replicate k true)) (A gs) w) :
  ∀(n:Nat) (g:List Bool) (gs:List Value) (w:World),g.length=k->gs.length=k->g.count false=n->S w->(∀p v,g[p]?=some true->gs[p]?=some v->G p v w)->fZ P md ops Q S E (B+n) (L g) (A gs) w:=by
 intro n
 induction n with
 | zero =>
  intro g gs w hd O D r z
  have T:g=List.replicate k true:=by
   rw [List.eq_replicate_iff];refine ⟨hd,fun b C=>?_⟩
   cases b with
   | true=>rfl
   | false=>exact absurd C (List.count_eq_zero.1 D)
  subst T;refine I gs w O r fun p v hv=>z p v ?_ hv
  have hp:=(Yx.1 hv).1;rw [List.getElem?_replicate,Y6 Z0]
 | succ n ih =>
  intro g gs w hd O D r z
  have Y:g.all id=false:=by
   rw [List.all_eq_false]
   have V:false∈g:=by
    rcases Classical.em (false∈g) with h | h
    ·exact h
    ·rw [List.count_eq_zero.2 h] at D
     cases D
   exact ⟨false,V,Z2⟩
  obtain ⟨aa,ab⟩:=hr g hd Y;refine ⟨fun h0=>absurd h0 aa,fun j hj=>?_⟩;obtain ⟨p,hp,rfl,F⟩:=ab j hj;obtain ⟨o,ho,V⟩:=Z p hp;obtain ⟨K,X⟩:=V gs w O r;refine wpOp_step ho (fun K' hK=>X K' _ fun v w' C U=>hK _ _ ⟨fun _=>hS w w' r C,?_⟩);rw [K v,hL g p hd hp];refine ih (g.set p true) (gs.set p v) w' (by rw [List.length_set];exact hd) (by rw [List.length_set];exact O) ?_ (hS w w' r C) fun q u hq R=>?_
  ·have J:p<g.length:=by omega
   have he:g[p]=false:=by rw [Y1 J] at F;exact Y9 F
   rw [List.count_set J,he,D];simp
  ·by_cases N:p=q
   ·subst N
    rw [List.getElem?_set_self Z0] at R;cases R
    exact U
   ·rw [List.getElem?_set_ne N] at hq R
    exact hG q u w w' (z q u hq R) C
def MS:Nat->List (List Bool)
 | 0=>[[]]
 | k+1=>(MS k).flatMap fun l=>[true :: l,false :: l]
theorem Dy:∀(k:Nat) (ds:List Bool),ds.length=k->ds∈MS k
 | 0,[],_=>by simp [MS]
 | k+1,b :: l,h=>by
  unfold MS;rw [List.mem_flatMap];refine ⟨l,Dy k l (by simpa using h),?_⟩;cases b <;> simp
def Vw (md:Region.Mode) (ops:Array Oper) (L:List Bool->Array Bool) (k:Nat) (mk:Nat->Nat):Bool :=
 (MS k).all fun ds=>ds.all id || (!(Region.ready md ops (L ds)).isEmpty && (Region.ready md ops (L ds)).all fun j=>(List.range k).any fun p=>mk p == j && ds[p]? == some false)
theorem JP {L:List Bool->Array Bool} {k:Nat} {mk:Nat->Nat} (h:Vw md ops L k mk=true) (g:List Bool) (hd:g.length=k) (v:g.all id=false) :
  Region.ready md ops (L g)≠[]/\∀j∈Region.ready md ops (L g),∃p,p<k/\mk p=j/\g[p]?=some false:=by
 unfold Vw at h;rw [List.all_eq_true] at h;have o:=h g (Dy k g hd);rw [v,Bool.false_or,YF] at o;refine ⟨fun e=>?_,fun j u=>?_⟩
 ·rw [e] at o
  simp at o
 ·have r:=List.all_eq_true.1 o.2 j u
  rw [List.any_eq_true] at r;obtain ⟨p,hp,q⟩:=r;rw [YF,beq_iff_eq,beq_iff_eq] at q;exact ⟨p,List.mem_range.1 hp,q.1,q.2⟩
theorem oG {f:FuncId} {args:Array Value} (hgd:o.guard=none)
  (q:(execOp a.eval o).run P w=.ok (.enter f args) w) (j:Calls P f args w (fun e w'=>∃v,e=.returned v/\Below w.heap.size w w'/\G v w')):Mk1 P Q ops o a w G:=fun K F h=>by
 rw [Y6 ZR];unfold Oper.wp;rw [q,Oper.upon_enter];refine j.mono fun e w' hp=>?_
 obtain ⟨v,rfl,g,p⟩:=hp;exact h v w' g p
theorem Pz {w':World} {v:Value} (hgd:o.guard=none)
  (p:(execOp a.eval o).run P w=.ok (.value v) w') (g:Below w.heap.size w w') (j:G v w'):Mk1 P Q ops o a w G:=fun K F h=>by
 rw [Y6 ZR];unfold Oper.wp;rw [p];exact h v w' g j
end
end Go.Proofs.YtnhekaepgpbijaaGreatDoor
namespace Go.Proofs.YtnhekaepgpbijaaGreatDoor
open Go.Proofs.Tryz Go.RowKit
def W64 (n:Int):Prop:=(Lit.int .i64 n).wf=true
def Fs (s:ByteArray):Prop:=s.size<=maxLen
theorem kS {s:ByteArray} (h:Fs s) (d:Nat):prog.keyLits (d+1) 9 [.string s]=some [.string s.data.toList]:=by
 have u:=underlying9;unfold Fs at h;simp [Program.keyLits,u,h]
theorem kI {n:Int} (h:W64 n) (d:Nat):prog.keyLits (d+1) 39 [.int .i64 n]=some [.int .i64 n]:=by
 have u:=underlying39;unfold W64 at h;simp [Program.keyLits,u,h]
end Go.Proofs.YtnhekaepgpbijaaGreatDoor
