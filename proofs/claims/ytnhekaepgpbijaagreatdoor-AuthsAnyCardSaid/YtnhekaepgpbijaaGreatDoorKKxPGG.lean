/- Several of my texts in one: MsgG, PayP, KxPG, MsgH. -/
import Derived.Test.YtnhekaepgpbijaaGreatDoorKAli
import Derived.Test.YtnhekaepgpbijaaGreatDoorKChnG
import Derived.Test.YtnhekaepgpbijaaGreatDoorKAsG
import Derived.ProofKit
import Derived.OpenShut
import Derived.ChangeOld
import Derived.HandedShaped
import Derived.ChangeArms
import Derived.Lib.Split
import Derived.Lib.IndexAny
import Derived.Lib.Join
set_option linter.unusedVariables false
set_option linter.unusedSimpArgs false
set_option maxHeartbeats 40000000
set_option maxRecDepth 100000
namespace Go.Proofs.YtnhekaepgpbijaaGreatDoor
open Go.Proofs.Tryz
variable {l:List (List UInt8)} {j o q r s t x:List UInt8} {k n:Nat}
def bA (s:List UInt8):Bool:=(s.all fun c=>decide (33<=c.toNat) && decide (c.toNat<=126) && !(c == 44)) && decide (1<=s.length) && decide (s.length<=64)
def bJ (l:List (List UInt8)):Nat:=if 16<l.length then 2 else if l.all bA=true then 0 else 3
def dV:List (List UInt8)->List UInt8
 | []=>[]
 | [x]=>x
 | x :: y :: r=>x++44 :: dV (y :: r)
def aN:List UInt8->List (List UInt8)
 | []=>[[]]
 | c :: r=>if c=44 then [] :: aN r else ((c :: (aN r).headD []) :: (aN r).tail)
theorem yE (s:List UInt8):aN s≠[]:=by
 cases s with
 | nil=>simp [aN]
 | cons c r =>
  unfold aN
  split <;> simp
theorem fK (x:List UInt8) (h:l≠[]):dV (x :: l)=x++44 :: dV l:=by
 cases l with
 | nil=>exact absurd rfl h
 | cons y r=>rfl
theorem qG (s:List UInt8):dV (aN s)=s:=by
 induction s with
 | nil=>rfl
 | cons c r ih =>
  have g:=yE r;unfold aN
  split
  ·rename_i h
   rw [fK _ g,ih,h];rfl
  ·cases hs:aN r with
   | nil=>exact absurd hs g
   | cons x xs =>
    rw [hs] at ih
    cases xs with
    | nil =>
     simp only [dV] at ih;simp [dV,ih]
    | cons y ys =>
     rw [fK _ Z3] at ih;simp only [List.headD_cons,List.tail_cons];rw [fK _ Z3,<- ih];rfl
theorem nN (h:(44:UInt8) ∉ x):aN x=[x]:=by
 induction x with
 | nil=>rfl
 | cons c r ih =>
  simp only [Yz,not_or] at h;unfold aN;rw [Y5 (fun e=>h.1 e.symm),ih h.2];rfl
theorem qw (h:(44:UInt8) ∉ x) (r:List UInt8):aN (x++44 :: r)=x :: aN r:=by
 induction x with
 | nil=>simp [aN]
 | cons c x ih =>
  simp only [Yz,not_or] at h;rw [YD,aN,Y5 (fun e=>h.1 e.symm),ih h.2];rfl
theorem Aj (j:l≠[]) (h:∀x∈l,(44:UInt8) ∉ x):aN (dV l)=l:=by
 induction l with
 | nil=>exact absurd rfl j
 | cons x l ih =>
  by_cases g:l=[]
  ·subst g
   exact nN (h x Z3)
  ·rw [fK _ g,qw (h x Z3),ih g (fun y hy=>h y Xq)]
def splitN (s:List UInt8):Nat × List (List UInt8):=if s=[] then (0,[]) else if bJ (aN s)=0 then (0,aN s) else (bJ (aN s),[])
theorem Ck (h:bA s=true):(44:UInt8) ∉ s:=by
 intro g;unfold bA at h;simp only [YF,List.all_eq_true] at h;have:=(h.1.1 44 g).2;simp at this
theorem gQ (h:bA s=true):1<=s.length/\s.length<=64:=by
 unfold bA at h;simp only [YF,Yw] at h;exact ⟨h.1.2,h.2⟩
theorem jE (h:bJ l=0):l.length<=16/\∀x∈l,bA x=true:=by
 unfold bJ at h
 split at h
 ·cases h
 ·split at h
  ·rename_i g
   exact ⟨Z0,by simpa using g⟩
  ·cases h
theorem jJ (l:List (List UInt8)):bJ l=0\/bJ l=2\/bJ l=3:=by
 unfold bJ
 split
 ·exact .inr (.inl rfl)
 ·split
  ·exact .inl rfl
  ·exact .inr (.inr rfl)
theorem Bt (h:bJ l=0):splitN (dV l)=(0,l):=by
 obtain ⟨_,j⟩:=jE h;unfold splitN
 by_cases o:l=[]
 ·subst o
  rfl
 ·have hs:=Aj o (fun x q=>Ck (j x q))
  have g:dV l≠[]:=by
   intro e;rw [e] at hs;have p:=j [] (by rw [<-hs];simp [aN]);have:=gQ p;simp at this
  rw [Y5 g,hs,Y6 h]
theorem DW (h:splitN s=(0,l)):bJ l=0/\dV l=s:=by
 unfold splitN at h
 split at h
 ·rename_i hs
  injection h with _ h;subst h hs;exact ⟨rfl,rfl⟩
 ·split at h
  ·rename_i g
   injection h with _ h;subst h;exact ⟨g,qG s⟩
  ·rename_i g
   injection h with h _;exact absurd h g
theorem kg (h:∀x∈l,x.length<=64):(dV l).length<=l.length*65:=by
 induction l with
 | nil=>simp [dV]
 | cons x l ih =>
  have j:=h x Z3;have o:=ih (fun y hy=>h y Xq)
  by_cases g:l=[]
  ·subst g
   simp [dV];omega
  ·rw [fK _ g]
   simp only [Ya,Yv];omega
structure Fld where
 k:Nat
 n:Int
 s:List UInt8
 l:List (List UInt8)
def bi (s:List UInt8):List UInt8:=q4 s.length++s
def cntF (k:Nat):Nat:=if k=98\/k=117 then 0 else if k=110\/k=101 then 2 else 1
def bK (x:Fld):Bool:=(decide (cntF x.k=0) || decide (x.n=0)) && ((decide (cntF x.k=1) || x.s.isEmpty) && (decide (cntF x.k=2) || x.l.isEmpty))
def om (l:List (List UInt8)):List UInt8:=q4 (l.length / 2)++(l.map bi).flatten
def aH (x:Fld):Nat × List UInt8 :=
 if x.k=98 then (if x.n=0 then (0,[0]) else if x.n=1 then (0,[1]) else (5,[]))
 else if x.k=117 then (if 0<=x.n/\x.n<4294967296 then (0,q4 x.n.toNat) else (5,[]))
 else if x.k=109 then (if dU x.s=true then (3,[]) else (0,dY x.s))
 else if x.k=110 then (if bJ x.l=0 then (0,bi (dV x.l)) else (bJ x.l,[]))
 else if x.k=99 then (if x.s.length=16 then (0,x.s) else (3,[]))
 else if x.k=101 then (if x.l.length % 2=1 then (3,[]) else if 16<x.l.length then (2,[]) else (0,om x.l))
 else (0,bi x.s)
inductive Res (α:Type) where
 | ok (a:α) (r:List UInt8)
 | no (e:Nat)
def fG (n:Nat) (r:List UInt8):Res (List UInt8):=if r.length<n then .no 4 else .ok (r.take n) (r.drop n)
def nI (r:List UInt8):Res Int:=match r with
 | []=>.no 4
 | c :: r'=>if c.toNat<=1 then .ok c.toNat r' else .no 3
def lJ (r:List UInt8):Res Nat:=if r.length<4 then .no 4 else .ok (n4 r) (r.drop 4)
def dA (r:List UInt8):Res (List UInt8):=if r.length<4 then .no 4 else if r.length - 4<n4 r then .no 4 else .ok ((r.drop 4).take (n4 r)) (r.drop (4+n4 r))
def dP (s:List UInt8):Bool:=match s with
 | []=>true
 | c :: r=>if 128<=c.toNat then false else if c.toNat=0 then (match r with | []=>false | d :: _=>decide (128<=d.toNat)) else true
def ig (r:List UInt8):Res (List UInt8):=match dA r with
 | .no e=>.no e
 | .ok s r'=>if dP s=true then .ok (aY s) r' else .no 3
def cK:Nat->List UInt8->Res (List (List UInt8))
 | 0,r=>.ok [] r
 | n+1,r=>match dA r with
  | .no e=>.no e
  | .ok s r'=>match cK n r' with
   | .no e=>.no e
   | .ok l r2=>.ok (s :: l) r2
def lu (r:List UInt8):Res (List (List UInt8)):=match lJ r with
 | .no e=>.no e
 | .ok n r'=>if 8<n then .no 2 else cK (2*n) r'
def pW (r:List UInt8):Res (List (List UInt8)):=match dA r with
 | .no e=>.no e
 | .ok s r'=>if (splitN s).1=0 then .ok (splitN s).2 r' else .no (splitN s).1
def Res.map {α β:Type} (f:α->β):Res α->Res β
 | .ok a r=>.ok (f a) r
 | .no e=>.no e
def dx (k:Nat) (r:List UInt8):Res Fld :=
 if k=98 then (nI r).map (fun n=>⟨k,n,[],[]⟩)
 else if k=117 then (lJ r).map (fun n=>⟨k,(n:Nat),[],[]⟩)
 else if k=109 then (ig r).map (fun s=>⟨k,0,s,[]⟩)
 else if k=110 then (pW r).map (fun l=>⟨k,0,[],l⟩)
 else if k=99 then (fG 16 r).map (fun s=>⟨k,0,s,[]⟩)
 else if k=101 then (lu r).map (fun l=>⟨k,0,[],l⟩)
 else (dA r).map (fun s=>⟨k,0,s,[]⟩)
theorem mh (h:s.length<4294967296) (r:List UInt8):dA (bi s++r)=.ok s r:=by
 unfold dA bi;have j:n4 (q4 s.length++s++r)=s.length:=by rw [Yk];exact zf h _
 have g:(q4 s.length++s++r).length=4+s.length+r.length:=by rw [Ya,Ya,bM]
 rw [j,g,Y5 Z0,Y5 Z0]
 have hd:(q4 s.length++s++r).drop 4=s++r:=by
  rw [Yk,List.drop_append_of_le_length (by simp [bM])];rfl
 rw [hd,<- Yr,hd,List.take_left,List.drop_left]
theorem Cb (h:¬ r.length<4):q4 (n4 r)++r.drop 4=r:=by
 match r,h with
 | x :: y :: z :: u :: q,_ =>
  rw [TF];rfl
 | [],h=>exact absurd (show ([]:List UInt8).length<4 by decide) h
 | [_],h=>exact absurd Z3 h
 | [_,_],h=>exact absurd Z3 h
 | [_,_,_],h=>exact absurd Z3 h
theorem iP (h:dA r=.ok s o):r=bi s++o/\s.length<4294967296:=by
 unfold dA at h
 split at h
 ·cases h
 ·rename_i p
  split at h
  ·cases h
  ·rename_i q
   injection h with h3 h4;have hs:=Cb p;have g:=jG r;rw [<-Yr] at h4;generalize n4 r=n at q h3 h4 hs g;have j:s.length=n:=by rw [<-h3,Yq,Yu];omega
   refine ⟨?_,by rw [j];exact g⟩;unfold bi;rw [j,<- h3,<- h4,Yk,List.take_append_drop,hs]
theorem KT {g:List UInt8} (h:dA r=.ok s g) (o:cK n g=.ok l j):cK (n+1) r=.ok (s :: l) j:=by
 simp only [cK];rw [h];simp only;rw [o]
theorem E8 (h:∀x∈l,x.length<4294967296) (r:List UInt8):cK l.length ((l.map bi).flatten++r)=.ok l r:=by
 induction l with
 | nil=>rfl
 | cons x l ih =>
  simp only [List.map_cons,List.flatten_cons,Yv,Yk];exact KT (mh (h x Z3) _) (ih (fun y hy=>h y Xq))
theorem ER {p:List UInt8} (h:cK n r=.ok l p):r=(l.map bi).flatten++p/\l.length=n/\∀x∈l,x.length<4294967296:=by
 induction n generalizing r l with
 | zero =>
  simp only [cK] at h;injection h with h1 g;subst h1 g;exact ⟨rfl,rfl,Z3⟩
 | succ n ih =>
  simp only [cK] at h
  cases j:dA r with
  | no e=>rw [j] at h;cases h
  | ok s r1 =>
   rw [j] at h;simp only at h
   cases g:cK n r1 with
   | no e=>rw [g] at h;cases h
   | ok l2 r2 =>
    rw [g] at h;simp only at h;injection h with h3 h4;subst h3 h4;obtain ⟨q,u⟩:=iP j;obtain ⟨v,z,A⟩:=ih g;refine ⟨by simp only [List.map_cons,List.flatten_cons,Yk];rw [q,v],by simp [z],?_⟩;intro x o;rcases Yz.1 o with rfl | o
    ·exact u
    ·exact A x o
theorem Dc (h:n<4294967296) (r:List UInt8):lJ (q4 n++r)=.ok n r:=by
 unfold lJ;rw [Y5 (by simp [bM]),zf h];rfl
theorem lM (h:lJ r=.ok n j):r=q4 n++j/\n<4294967296:=by
 unfold lJ at h
 split at h
 ·cases h
 ·rename_i o
  injection h with h2 h3;have hs:=Cb o;have g:=jG r;rw [h2] at hs g;rw [<-h3];exact ⟨hs.symm,g⟩
theorem uq (h:dU s=false):aY (dW s)=s:=by
 cases s with
 | nil=>rfl
 | cons c r =>
  unfold dW;simp only
  split
  ·show aY (0 :: c :: r)=_
   unfold aY;rw [List.dropWhile_cons_of_pos Z5];exact iT (l:=c :: r) h
  ·exact iT h
theorem ui (h:dU s=false):dP (dW s)=true:=by
 cases s with
 | nil=>rfl
 | cons c r =>
  unfold dW;simp only
  split
  ·rename_i g
   simp [dP,g]
  ·rename_i g
   have:¬ c.toNat=0:=fun e=>by
    have:c=0:=UInt8.toNat_inj.1 XO;subst this;simp [dU] at h
   simp [dP,g,this]
theorem xO (h:dP s=true):dU (aY s)=false/\dW (aY s)=s:=by
 cases s with
 | nil=>exact ⟨rfl,rfl⟩
 | cons c r =>
  unfold dP at h;simp only at h
  split at h
  ·cases h
  ·rename_i o
   split at h
   ·rename_i j
    have g:c=0:=UInt8.toNat_inj.1 (by simpa using j);subst g
    cases r with
    | nil=>cases h
    | cons d q =>
     simp only [Yw] at h;have hd:¬ d=0:=fun e=>by subst e;simp at h
     have hp:aY (0 :: d :: q)=d :: q:=by
      unfold aY;rw [List.dropWhile_cons_of_pos Z5];exact iT (l:=d :: q) (by simp [dU,hd])
     rw [hp];exact ⟨by simp [dU,hd],by simp [dW,h]⟩
   ·rename_i j
    have g:¬ c=0:=fun e=>by subst e;simp at j
    have hp:aY (c :: r)=c :: r:=iT (by simp [dU,g]);rw [hp];exact ⟨by simp [dU,g],by simp [dW,o]⟩
theorem iK (h:dU s=false):dY s=bi (dW s):=by
 unfold dY bi;rw [iT h]
theorem zg (h:dA r=.ok t q):ig r=if dP t=true then .ok (aY t) q else .no 3:=by
 unfold ig;rw [h]
theorem sI (h:dA r=.ok t q):pW r=if (splitN t).1=0 then .ok (splitN t).2 q else .no (splitN t).1:=by
 unfold pW;rw [h]
theorem nV (h:lJ r=.ok n q):lu r=if 8<n then .no 2 else cK (2*n) q:=by
 unfold lu;rw [h]
theorem D9 (h:dU s=false) (j:s.length<4294967290) (r:List UInt8):ig (dY s++r)=.ok s r:=by
 have:=o8 s;have g:=mh (s:=dW s) Z0 r;rw [<-iK h] at g;rw [zg g,Y6 (ui h),uq h]
theorem Fg (h:ig r=.ok s o):r=dY s++o/\dU s=false:=by
 unfold ig at h
 cases g:dA r with
 | no e=>rw [g] at h;cases h
 | ok t r1 =>
  rw [g] at h;simp only at h
  split at h
  ·rename_i hw
   injection h with h1 h2;obtain ⟨p,_⟩:=iP g;obtain ⟨j,q⟩:=xO hw;subst h1 h2;refine ⟨?_,j⟩;rw [iK j,q,p]
  ·cases h
def Kg (x:Fld):Prop:=x.s.length<4294967000/\∀y∈x.l,y.length<4294967000
theorem Ac {x:Fld} (h:bK x=true) (g:cntF x.k=0):x=⟨x.k,x.n,[],[]⟩:=by
 obtain ⟨k,n,s,l⟩:=x;simp only [bK] at h g;simp_all
theorem qC {x:Fld} (h:bK x=true) (g:cntF x.k=1):x=⟨x.k,0,x.s,[]⟩:=by
 obtain ⟨k,n,s,l⟩:=x;simp only [bK] at h g;simp_all
theorem Ai {x:Fld} (h:bK x=true) (g:cntF x.k=2):x=⟨x.k,0,[],x.l⟩:=by
 obtain ⟨k,n,s,l⟩:=x;simp only [bK] at h g;simp_all
theorem Res.map_ok {α g:Type} (f:α->g) (a:α) (r:List UInt8):(Res.ok a r).map f=.ok (f a) r:=rfl
theorem uP (r:List UInt8) (h:k=98):dx k r=(nI r).map (fun n=>⟨k,n,[],[]⟩):=by unfold dx;rw [Y6 h]
theorem wO (r:List UInt8) (h:k=117):dx k r=(lJ r).map (fun n=>⟨k,(n:Nat),[],[]⟩):=by unfold dx;rw [Y5 Z0,Y6 h]
theorem vG (r:List UInt8) (h:k=109):dx k r=(ig r).map (fun s=>⟨k,0,s,[]⟩):=by unfold dx;rw [Y5 Z0,Y5 Z0,Y6 h]
theorem xE (r:List UInt8) (h:k=110):dx k r=(pW r).map (fun l=>⟨k,0,[],l⟩):=by unfold dx;rw [Y5 Z0,Y5 Z0,Y5 Z0,Y6 h]
theorem Bn (r:List UInt8) (h:k=99):dx k r=(fG 16 r).map (fun s=>⟨k,0,s,[]⟩):=by unfold dx;rw [Y5 Z0,Y5 Z0,Y5 Z0,Y5 Z0,Y6 h]
theorem vw (r:List UInt8) (h:k=101):dx k r=(lu r).map (fun l=>⟨k,0,[],l⟩):=by unfold dx;rw [Y5 Z0,Y5 Z0,Y5 Z0,Y5 Z0,Y5 Z0,Y6 h]
theorem oL (r:List UInt8) (g:¬ k=98) (h:¬ k=117) (j:¬ k=109) (o:¬ k=110) (p:¬ k=99) (q:¬ k=101):dx k r=(dA r).map (fun s=>⟨k,0,s,[]⟩):=by
 unfold dx;rw [Y5 g,Y5 h,Y5 j,Y5 o,Y5 p,Y5 q]
theorem iL (c:UInt8) (r:List UInt8):nI (c :: r)=if c.toNat<=1 then .ok c.toNat r else .no 3:=rfl
theorem Ea (h:s.length=n) (r:List UInt8):fG n (s++r)=.ok s r:=by
 unfold fG;rw [Y5 (by rw [Ya];omega),<- h,List.take_left,List.drop_left]
theorem get_put {x:Fld} {b:List UInt8} (z:Kg x) (hp:bK x=true) (h:aH x=(0,b)) (r:List UInt8):dx x.k (b++r)=.ok x r:=by
 unfold aH at h
 split at h
 ·rename_i g
  have e:=Ac hp (by simp [cntF,g])
  split at h
  ·rename_i v
   injection h with _ h;subst h;rw [uP _ g,List.singleton_append,iL,Y6 Z2,Res.map_ok,e,v];rfl
  ·split at h
   ·rename_i v
    injection h with _ h;subst h;rw [uP _ g,List.singleton_append,iL,Y6 Z2,Res.map_ok,e,v];rfl
   ·injection h with h _;cases h
 ·rename_i g
  split at h
  ·rename_i j
   have e:=Ac hp (by simp [cntF,j])
   split at h
   ·rename_i v
    injection h with _ h;subst h;rw [wO _ j,Dc Z0,Res.map_ok,show ((x.n.toNat:Nat):Int)=x.n from Z0,<- e]
   ·injection h with h _;cases h
  ·rename_i j
   split at h
   ·rename_i o
    have e:=qC hp (by simp [cntF,o])
    split at h
    ·injection h with h _;cases h
    ·rename_i C
     injection h with _ h;subst h;rw [vG _ o,D9 (by simpa using C) (by have:=z.1;omega),Res.map_ok,<- e]
   ·rename_i o
    split at h
    ·rename_i p
     have e:=Ai hp (by simp [cntF,p])
     split at h
     ·rename_i hw
      injection h with _ h;subst h;obtain ⟨w1,w2⟩:=jE hw;have D:=kg (l:=x.l) (fun y A=>(gQ (w2 y A)).2);have hs:=Bt hw;rw [xE _ p,sI (mh Z0 r),hs,Y6 rfl,Res.map_ok,<- e]
     ·rename_i hw
      injection h with h _;exact absurd h hw
    ·rename_i p
     split at h
     ·rename_i q
      have e:=qC hp (by simp [cntF,q])
      split at h
      ·rename_i hs
       injection h with _ h;subst h;rw [Bn _ q,Ea hs,Res.map_ok,<- e]
      ·injection h with h _;cases h
     ·rename_i q
      split at h
      ·rename_i u
       have e:=Ai hp (by simp [cntF,u])
       split at h
       ·injection h with h _;cases h
       ·split at h
        ·injection h with h _;cases h
        ·rename_i G D
         injection h with _ h;subst h;have B:=Dc (n:=x.l.length / 2) Z0 ((x.l.map bi).flatten++r);have F:=E8 (l:=x.l) (fun y A=>by have:=z.2 y A;omega) r;rw [<-Yk] at B;rw [vw _ u,show om x.l=q4 (x.l.length / 2)++(x.l.map bi).flatten from rfl,nV B,Y5 Z0,show 2*(x.l.length / 2)=x.l.length from Z0,F,Res.map_ok,<- e]
      ·rename_i u
       have e:=qC hp (by simp [cntF, *]);injection h with _ h;subst h;rw [oL _ g j o p q u,mh (by have:=z.1;omega),Res.map_ok,<- e]
theorem Ak {G:List UInt8} {x:Fld} (h:dx k r=.ok x G):x.k=k/\bK x=true/\∃b,aH x=(0,b)/\r=b++G:=by
 unfold dx at h
 split at h
 ·rename_i D
  subst D
  cases r with
  | nil=>cases h
  | cons c q =>
   simp only [nI] at h
   split at h
   ·rename_i L
    injection h with B p;subst B p;refine ⟨rfl,rfl,[c],?_,rfl⟩;have j:c.toNat=0\/c.toNat=1:=Z0;rcases j with j | j
    ·have:c=0:=UInt8.toNat_inj.1 (by simpa using j)
     subst this;rfl
    ·have:c=1:=UInt8.toNat_inj.1 (by simpa using j)
     subst this;rfl
   ·cases h
 ·rename_i D
  split at h
  ·rename_i B
   subst B
   cases g:lJ r with
   | no e=>rw [g] at h;cases h
   | ok n q =>
    rw [g] at h;injection h with p u;subst p u;obtain ⟨o,A⟩:=lM g;refine ⟨rfl,rfl,q4 n,?_,o⟩;simp only [aH];rw [Y5 Z0,Y6 trivial,Y6 ⟨Z0,Z0⟩];simp
  ·rename_i B
   split at h
   ·rename_i p
    subst p
    cases g:ig r with
    | no e=>rw [g] at h;cases h
    | ok s q =>
     rw [g] at h;injection h with u v;subst u v;obtain ⟨o,A⟩:=Fg g;refine ⟨rfl,XR,dY s,?_,o⟩;simp [aH,A]
   ·rename_i p
    split at h
    ·rename_i u
     subst u;unfold pW at h
     cases g:dA r with
     | no e=>rw [g] at h;cases h
     | ok s q =>
      rw [g] at h;simp only at h
      split at h
      ·rename_i hs
       injection h with v z;subst v z;obtain ⟨o,A⟩:=iP g;have F:=DW (s:=s) (l:=(splitN s).2) (by rw [<-hs]);refine ⟨rfl,XR,bi s,?_,o⟩;simp only [aH];rw [Y5 Z0,Y5 Z0,Y5 Z0,Y6 trivial,Y6 F.1,F.2]
      ·cases h
    ·rename_i u
     split at h
     ·rename_i v
      subst v;unfold fG at h
      split at h
      ·cases h
      ·rename_i N
       injection h with z h6;subst z h6;refine ⟨rfl,XR,r.take 16,?_,(List.take_append_drop 16 r).symm⟩;simp only [aH];rw [Y5 Z0,Y5 Z0,Y5 Z0,Y5 Z0,Y6 trivial,Y6 ZS]
     ·rename_i v
      split at h
      ·rename_i z
       subst z;unfold lu at h
       cases g:lJ r with
       | no e=>rw [g] at h;cases h
       | ok n q =>
        rw [g] at h;simp only at h
        split at h
        ·cases h
        ·rename_i O
         cases C:cK (2*n) q with
         | no e=>rw [C] at h;cases h
         | ok l q2 =>
          rw [C] at h;injection h with h6 h7;subst h6 h7;obtain ⟨o,A⟩:=lM g;obtain ⟨I,J,K⟩:=ER C;refine ⟨rfl,XR,om l,?_,?_⟩
          ·simp only [aH]
           rw [Y5 Z0,Y5 Z0,Y5 Z0,Y5 Z0,Y5 Z0,Y6 trivial,Y5 Z0,Y5 Z0]
          ·unfold om
           rw [J,show 2*n / 2=n from Z0,o,I,Yk]
      ·rename_i z
       cases g:dA r with
       | no e=>rw [g] at h;cases h
       | ok s q =>
        rw [g] at h;injection h with h6 h7;subst h6 h7;obtain ⟨o,A⟩:=iP g;refine ⟨rfl,by simp [bK,cntF, *],bi s,?_,o⟩;simp [aH, *]
end Go.Proofs.YtnhekaepgpbijaaGreatDoor

namespace Go.Proofs.YtnhekaepgpbijaaGreatDoor
open Go.Proofs.Tryz Go.RowKit
def forms (n:Int):List ByteArray :=
 if n=1 then [⟨#[117,115,115]⟩] else if n=2 then [⟨#[115]⟩] else if n=5 then [⟨#[115]⟩] else if n=6 then [⟨#[115]⟩]
 else if n=3 then [⟨#[117]⟩] else if n=4 then [⟨#[98,115,115]⟩] else if n=7 then [⟨#[101]⟩]
 else if n=20 then [⟨#[99,110,110,110,110,110,110,110,110,110,110,98,117]⟩] else if n=21 then [⟨#[]⟩] else if n=52 then [⟨#[]⟩]
 else if n=30 then [⟨#[116]⟩] else if n=32 then [⟨#[116]⟩] else if n=31 then [⟨#[116,116,116]⟩,⟨#[109,109]⟩]
 else if n=33 then [⟨#[116,116,116]⟩] else if n=34 then [⟨#[117,117,117]⟩]
 else if n=50 then [⟨#[115,115,115]⟩,⟨#[115,115,115,98,115,116]⟩,⟨#[115,115,115,98,115,116,116]⟩]
 else if n=51 then [⟨#[110,98]⟩] else if n=53 then [⟨#[115,115]⟩] else if n=60 then [⟨#[115,116]⟩] else []

theorem lK (n:Int):(forms n).length<=3:=by
 unfold forms
 repeat' refine rR (P:=fun l:List ByteArray=>l.length<=3) ?_ ?_
 all_goals decide
theorem sK (n:Int) (w:World) :
  Calls prog 45 #[.int .i64 n] w fun e w'=>∃v,e=.returned v/\Strs w.heap.size w' v (forms n)/\Below w.heap.size w w':=by
 by_cases D:n=1
 ·subst D
  go_enter func45,ntmps45;go_wp2;go_ret;exact ⟨_,rfl,bR w 9 (forms 1) _ rfl,(Below.refl _ _).alloc (Y2 _) _⟩
 by_cases F:n=2
 ·subst F
  go_enter func45,ntmps45;go_wp2;go_ret;exact ⟨_,rfl,bR w 9 (forms 2) _ rfl,(Below.refl _ _).alloc (Y2 _) _⟩
 by_cases J:n=5
 ·subst J
  go_enter func45,ntmps45;go_wp2;go_ret;exact ⟨_,rfl,bR w 9 (forms 5) _ rfl,(Below.refl _ _).alloc (Y2 _) _⟩
 by_cases K:n=6
 ·subst K
  go_enter func45,ntmps45;go_wp2;go_ret;exact ⟨_,rfl,bR w 9 (forms 6) _ rfl,(Below.refl _ _).alloc (Y2 _) _⟩
 by_cases G:n=3
 ·subst G
  go_enter func45,ntmps45;go_wp2;go_ret;exact ⟨_,rfl,bR w 9 (forms 3) _ rfl,(Below.refl _ _).alloc (Y2 _) _⟩
 by_cases I:n=4
 ·subst I
  go_enter func45,ntmps45;go_wp2;go_ret;exact ⟨_,rfl,bR w 9 (forms 4) _ rfl,(Below.refl _ _).alloc (Y2 _) _⟩
 by_cases L:n=7
 ·subst L
  go_enter func45,ntmps45;go_wp2;go_ret;exact ⟨_,rfl,bR w 9 (forms 7) _ rfl,(Below.refl _ _).alloc (Y2 _) _⟩
 by_cases g:n=20
 ·subst g
  go_enter func45,ntmps45;go_wp2;go_ret;exact ⟨_,rfl,bR w 9 (forms 20) _ rfl,(Below.refl _ _).alloc (Y2 _) _⟩
 by_cases h:n=21
 ·subst h
  go_enter func45,ntmps45;go_wp2;go_ret;exact ⟨_,rfl,bR w 9 (forms 21) _ rfl,(Below.refl _ _).alloc (Y2 _) _⟩
 by_cases A:n=52
 ·subst A
  go_enter func45,ntmps45;go_wp2;go_ret;exact ⟨_,rfl,bR w 9 (forms 52) _ rfl,(Below.refl _ _).alloc (Y2 _) _⟩
 by_cases j:n=30
 ·subst j
  go_enter func45,ntmps45;go_wp2;go_ret;exact ⟨_,rfl,bR w 9 (forms 30) _ rfl,(Below.refl _ _).alloc (Y2 _) _⟩
 by_cases p:n=32
 ·subst p
  go_enter func45,ntmps45;go_wp2;go_ret;exact ⟨_,rfl,bR w 9 (forms 32) _ rfl,(Below.refl _ _).alloc (Y2 _) _⟩
 by_cases o:n=31
 ·subst o
  go_enter func45,ntmps45;go_wp2;go_ret;exact ⟨_,rfl,bR w 9 (forms 31) _ rfl,(Below.refl _ _).alloc (Y2 _) _⟩
 by_cases q:n=33
 ·subst q
  go_enter func45,ntmps45;go_wp2;go_ret;exact ⟨_,rfl,bR w 9 (forms 33) _ rfl,(Below.refl _ _).alloc (Y2 _) _⟩
 by_cases r:n=34
 ·subst r
  go_enter func45,ntmps45;go_wp2;go_ret;exact ⟨_,rfl,bR w 9 (forms 34) _ rfl,(Below.refl _ _).alloc (Y2 _) _⟩
 by_cases u:n=50
 ·subst u
  go_enter func45,ntmps45;go_wp2;go_ret;exact ⟨_,rfl,bR w 9 (forms 50) _ rfl,(Below.refl _ _).alloc (Y2 _) _⟩
 by_cases z:n=51
 ·subst z
  go_enter func45,ntmps45;go_wp2;go_ret;exact ⟨_,rfl,bR w 9 (forms 51) _ rfl,(Below.refl _ _).alloc (Y2 _) _⟩
 by_cases B:n=53
 ·subst B
  go_enter func45,ntmps45;go_wp2;go_ret;exact ⟨_,rfl,bR w 9 (forms 53) _ rfl,(Below.refl _ _).alloc (Y2 _) _⟩
 by_cases C:n=60
 ·subst C
  go_enter func45,ntmps45;go_wp2;go_ret;exact ⟨_,rfl,bR w 9 (forms 60) _ rfl,(Below.refl _ _).alloc (Y2 _) _⟩
 go_enter func45,ntmps45;go_wp2;go_ret;refine ⟨_,rfl,?_,Below.refl _ _⟩;rw [forms];simp only [*,if_false];exact ⟨none,0,rfl,Sl.nil_⟩
def fit (n m:Int):ByteArray × Bool:=match (forms n).find? (fun s=>(s.size:Int) == m) with | some s=>(s,true) | none=>(⟨#[]⟩,false)
theorem zzac2 {p_:Prop} (h_:p_:=by
 generalize hs:(forms n)[k]=s at hc;have hs':(forms n)[k]?=some s:=by rw [Y1 hlt,hs]
 by_cases hm:(s.size:Int)=m
 ·have hf:fit n m=(s,true):=by
   have:(forms n).find? (fun s=>(s.size:Int) == m)=some s:=by
    rw [List.find?_eq_some_iff_getElem];exact ⟨by simpa using hm,k,hlt,hs,fun j hj=>by simpa using hno j _ hj (Y1 (by omega))⟩
   simp [fit,this]
  have Hf:=hide hf;clear hf hs hs' hno;go_wp2;go_ret2;exact ⟨by rw [Hf.out];rfl,hb⟩
 ·have hno':∀j s,j<k+1->(forms n)[j]?=some s->(s.size:Int)≠m:=by
   intro j s' hj hs2
   by_cases hjk:j=k
   ·subst hjk
    rw [hs'] at hs2;cases hs2
    exact hm
   ·exact hno j s' (by omega) hs2
  have Hno:=hide hno';clear hs hs' hno hno';go_wp2;go_round
  case rel=>exact ⟨k+1,hlt,by go_num,Hno.out⟩
  case measure=>simp [intOf];omega):p_:=h_
theorem SI (n m:Int) (w:World) :
  Calls prog 117 #[.int .i64 n,.int .i64 m] w fun e w'=>e=.returned (.tuple #[.string (fit n m).1,.bool (fit n m).2])/\Below w.heap.size w w':=by
 have q:=lK n;go_enter func117,ntmps117;go_wp2_with (go_at_call 45;refine (sK _ _).mono ?_;rintro e w1 ⟨v,rfl,⟨A,c,rfl,g⟩,hb⟩)
 go_loop [11] (fun i=>∃k:Nat,k<=(forms n).length/\i=.int .i64 k/\∀j s,j<k->(forms n)[j]?=some s->(s.size:Int)≠m) (fun i=>(forms n).length - (intOf i).toNat)
 case atStart=>exact ⟨0,Yb _,rfl,Z3⟩
 case round =>
  obtain ⟨k,p,rfl,hno⟩:=hrel
  by_cases hlt:k<(forms n).length
  ·obtain ⟨h,o,_,hc⟩:=g.str hlt
   exact zzac2
  ·have hf:fit n m=(⟨#[]⟩,false):=by
    have:(forms n).find? (fun s=>(s.size:Int) == m)=none:=by
     rw [List.find?_eq_none];intro s hs;obtain ⟨j,hj,rfl⟩:=YM hs;simpa using hno j _ Z0 (Y1 hj)
    simp [fit,this]
   have Hf:=hide hf;clear hf hno;go_wp2;go_ret2;exact ⟨by rw [Hf.out];rfl,hb⟩
theorem Cm (n:Int):((forms n).map ByteArray.size).Nodup:=by
 unfold forms
 repeat' refine rR (P:=fun l:List ByteArray=>(l.map ByteArray.size).Nodup) ?_ ?_
 all_goals decide
theorem Pm (n:Int) {i j:Nat} (g:i<j) (o:j<(forms n).length):((forms n)[i].size:Int)≠(forms n)[j].size:=by
 have h:=List.pairwise_iff_getElem.1 (Cm n) i j (by simp;omega) (by simpa using o) g;simp only [List.getElem_map] at h;omega
theorem SF (n:Int) {i:Nat} (hi:i<(forms n).length):fit n ((forms n)[i].size:Int)=((forms n)[i],true):=by
 have:(forms n).find? (fun s=>(s.size:Int) == ((forms n)[i].size:Int))=some (forms n)[i]:=by
  rw [List.find?_eq_some_iff_getElem];exact ⟨Z3,i,hi,rfl,fun j g=>by simpa using Pm n g hi⟩
 simp [fit,this]
end Go.Proofs.YtnhekaepgpbijaaGreatDoor

namespace Go.Proofs.YtnhekaepgpbijaaGreatDoor
open Go.Proofs.Tryz
variable {c:UInt8} {f out p r s:List UInt8} {i k:Nat} {x:Fld} {l:List Fld} {fs:List ByteArray} {n:Int}
inductive RdR where
 | ok (l:List Fld)
 | no (e:Nat) (i:Nat)
 | tail
def RdR.cons (x:Fld):RdR->RdR
 | .ok l=>.ok (x :: l)
 | .no e j=>.no e j
 | .tail=>.tail
def aQ:List UInt8->List UInt8->Nat->RdR
 | [],r,_=>if r=[] then .ok [] else .tail
 | c :: f,r,i=>match dx c.toNat r with
  | .no e=>.no e i
  | .ok x r'=>(aQ f r' (i+1)).cons x
theorem jg {g:List UInt8} (h:dx c.toNat r=.ok x g):aQ (c :: f) r i=(aQ f g (i+1)).cons x:=by
 simp only [aQ];rw [h]
theorem oO {e:Nat} (h:dx c.toNat r=.no e):aQ (c :: f) r i=.no e i:=by
 simp only [aQ];rw [h]
def bI (l:List Fld):List UInt8:=(l.map fun x=>(aH x).2).flatten
theorem fB (x:Fld) (l:List Fld):bI (x :: l)=(aH x).2++bI l:=by simp [bI]
def okF (x:Fld):Prop:=bK x=true/\(aH x).1=0
theorem IC (h:okF x):aH x=(0,(aH x).2):=by
 have:=h.2;generalize aH x=p at this ⊢;obtain ⟨a,b⟩:=p;simp only at this;rw [this]
theorem jr (hk:l.map (·.k)=f.map (·.toNat)) (h:∀x∈l,okF x/\Kg x) (i:Nat):aQ f (bI l) i=.ok l:=by
 induction f generalizing l i with
 | nil =>
  have:l=[]:=Xd;subst this;rfl
 | cons c f ih =>
  cases l with
  | nil=>simp at hk
  | cons x l =>
   simp only [List.map_cons,List.cons.injEq] at hk;have g:=h x Z3;rw [fB];have j:=get_put g.2 g.1.1 (IC g.1) (bI l);rw [hk.1] at j;rw [jg j,ih hk.2 (fun y hy=>h y Xq)];rfl
theorem FR (h:aQ f r i=.ok l):l.map (·.k)=f.map (·.toNat)/\(∀x∈l,okF x)/\r=bI l:=by
 induction f generalizing l r i with
 | nil =>
  simp only [aQ] at h
  split at h
  ·rename_i D
   injection h with h;subst h D;exact ⟨rfl,Z3,rfl⟩
  ·cases h
 | cons c f ih =>
  simp only [aQ] at h
  cases o:dx c.toNat r with
  | no e=>rw [o] at h;cases h
  | ok x r' =>
   rw [o] at h;simp only at h
   cases g:aQ f r' (i+1) with
   | no e j=>rw [g] at h;cases h
   | tail=>rw [g] at h;cases h
   | ok l2 =>
    rw [g] at h;simp only [RdR.cons] at h;injection h with h;subst h;obtain ⟨u,v,b,q,z⟩:=Ak o;obtain ⟨A,B,C⟩:=ih g;refine ⟨by simp [u,A],?_,by rw [fB,q,z,C]⟩;intro y p;rcases Yz.1 p with rfl | p
    ·exact ⟨v,by rw [q]⟩
    ·exact B y p
inductive UF where
 | ok (s:List UInt8)
 | none
 | long
 | bad (e:Nat) (i:Nat)
def gG:List UInt8->List Fld->Nat->List UInt8->UF
 | c :: f,x :: l,i,out =>
  if x.k=c.toNat/\bK x=true then (if (aH x).1=0 then (if 32768<(out++(aH x).2).length then .long else gG f l (i+1) (out++(aH x).2)) else .bad (aH x).1 i) else .bad 3 i
 | _,_,_,out=>.ok out
def encS (num:Int) (l:List Fld):UF :=
 if (fit num l.length).2=true then gG (fit num l.length).1.data.toList l 0 [UInt8.ofNat num.toNat] else .none
theorem Dg (hk:l.map (·.k)=f.map (·.toNat)) (h:∀x∈l,okF x) (g:(out++bI l).length<=32768):gG f l i out=.ok (out++bI l):=by
 induction f generalizing l i out with
 | nil =>
  have:l=[]:=Xd;subst this;simp [gG,bI]
 | cons c f ih =>
  cases l with
  | nil=>simp at hk
  | cons x l =>
   simp only [List.map_cons,List.cons.injEq] at hk;have j:=h x Z3;rw [fB,<- Yk] at g;simp only [gG];rw [Y6 ⟨hk.1,j.1⟩,Y6 j.2,Y5 (by rw [Ya] at g;omega),ih hk.2 (fun y hy=>h y Xq) g,fB,Yk]
theorem tY (hl:l.length=f.length) (h:gG f l i out=.ok s):l.map (·.k)=f.map (·.toNat)/\(∀x∈l,okF x)/\s=out++bI l/\(s.length<=32768\/s=out):=by
 induction f generalizing l i out with
 | nil =>
  have:l=[]:=Xu;subst this;simp only [gG] at h;injection h with h;subst h;exact ⟨rfl,Z3,by simp [bI],.inr rfl⟩
 | cons c f ih =>
  cases l with
  | nil=>simp at hl
  | cons x l =>
   simp only [gG] at h
   split at h
   ·rename_i o
    split at h
    ·rename_i u
     split at h
     ·cases h
     ·rename_i v
      obtain ⟨p,q,r,g⟩:=ih Xu h;refine ⟨by simp [o.1,p],?_,by rw [fB,r,Yk],?_⟩
      ·intro y j
       rcases Yz.1 j with rfl | j
       ·exact ⟨o.2,u⟩
       ·exact q y j
      ·rcases g with g | g
       ·exact .inl g
       ·exact .inl (by rw [g];omega)
    ·cases h
   ·cases h
inductive Te where
 | ok (num:Nat) (l:List Fld)
 | all (e:Nat)
 | bad (num:Nat) (e:RdR)
def dL:List ByteArray->List UInt8->Option (List Fld)
 | [],_=>none
 | f :: fs,r=>match aQ f.data.toList r 0 with
  | .ok l=>some l
  | _=>dL fs r
theorem fV {f:ByteArray} (h:aQ f.data.toList r 0=.ok l):dL (f :: fs) r=some l:=by
 simp only [dL];rw [h]
theorem iR {f:ByteArray} (h:∀l,aQ f.data.toList r 0≠.ok l):dL (f :: fs) r=dL fs r:=by
 cases g:aQ f.data.toList r 0 with
 | ok l=>exact absurd g (h l)
 | no e j =>
  simp only [dL,g]
 | tail =>
  simp only [dL,g]
theorem zzd3e {p_:Prop} (h_:p_:=by
 rw [iR (by intro l2 e2;rw [hr] at e2;cases e2)] at h;obtain ⟨f2,h2,h3⟩:=ih h
 exact ⟨f2,by simp [h2],h3⟩):p_:=h_
theorem FC (h:dL fs r=some l):∃f∈fs,aQ f.data.toList r 0=.ok l:=by
 induction fs with
 | nil=>cases h
 | cons f fs ih =>
  cases hr:aQ f.data.toList r 0 with
  | ok l2 =>
   rw [fV hr] at h;injection h with h;subst h;exact ⟨f,Z3,hr⟩
  | no e j =>
   exact zzd3e
  | tail =>
   exact zzd3e
def dC (p:List UInt8):Te:=match p with
 | []=>.all 4
 | c :: r=>if 32768<(c :: r).length then .all 2 else match forms c.toNat with
  | []=>.all 6
  | f :: fs=>match dL (f :: fs) r with
   | some l=>.ok c.toNat l
   | none=>.bad c.toNat (aQ f.data.toList r 0)
theorem qN (j:(c :: r).length<=32768) (h:dL (forms c.toNat) r=some l):dC (c :: r)=.ok c.toNat l:=by
 simp only [dC];rw [Y5 Z0]
 split
 ·rename_i g
  rw [g] at h;cases h
 ·rename_i f fs g
  rw [g] at h;rw [h]
theorem MB {num:Nat} (h:dC p=.ok num l):∃c r,p=c :: r/\num=c.toNat/\p.length<=32768/\dL (forms num) r=some l:=by
 cases p with
 | nil=>cases h
 | cons c r =>
  simp only [dC] at h
  split at h
  ·cases h
  ·rename_i o
   split at h
   ·cases h
   ·rename_i f fs j
    split at h
    ·rename_i q g
     injection h with h1 h2;subst h1 h2;exact ⟨c,r,rfl,rfl,Z0,by rw [j,g]⟩
    ·cases h
theorem Er (n:Int):(forms n).length<=1\/n=31\/n=50:=by
 by_cases g:n=31
 ·exact .inr (.inl g)
 ·by_cases h:n=50
  ·exact .inr (.inr h)
  ·left
   unfold forms;rw [Y5 g,Y5 h]
   repeat' refine rR (P:=fun l:List ByteArray=>l.length<=1) ?_ ?_
   all_goals decide
theorem N7:forms 31=[⟨#[116,116,116]⟩,⟨#[109,109]⟩]:=Z7
theorem Mw:forms 50=[⟨#[115,115,115]⟩,⟨#[115,115,115,98,115,116]⟩,⟨#[115,115,115,98,115,116,116]⟩]:=Z7
theorem yT (g:k=115\/k=116) (h:s.length<4294967296) (r:List UInt8):dx k (bi s++r)=.ok ⟨k,0,s,[]⟩ r:=by
 rw [oL _ Z0 Z0 Z0 Z0 Z0 Z0,mh h,Res.map_ok]
theorem OV (g:k=115\/k=116\/k=98):dx k []=.no 4:=by
 rcases g with rfl | rfl | rfl <;> rfl
theorem Eu (hk:l.map (·.k)=f.map (·.toNat)) (h:∀x∈l,okF x/\Kg x) (o:r≠[]) (i:Nat):aQ f (bI l++r) i=.tail:=by
 induction f generalizing l i with
 | nil =>
  have:l=[]:=Xd;subst this;simp only [aQ,bI,List.map_nil,List.flatten_nil,YE];rw [Y5 o]
 | cons c f ih =>
  cases l with
  | nil=>simp at hk
  | cons x l =>
   simp only [List.map_cons,List.cons.injEq] at hk;have g:=h x Z3;have j:=get_put g.2 g.1.1 (IC g.1) (bI l++r);rw [hk.1] at j;rw [fB,Yk,jg j,ih hk.2 (fun y hy=>h y Xq)];rfl
theorem Uy (h:okF x):(aH x).2≠[]:=by
 obtain ⟨j,g⟩:=h;unfold aH at g ⊢
 repeat' split at g
 all_goals first | (simp only at g;omega) | skip
 all_goals simp only [*,if_true,if_false,ne_eq,not_false_eq_true]
 all_goals first
  | (simp;done)
  | (simp [q4];done)
  | (simp [dY,q4];done)
  | (simp [bi,q4];done)
  | (simp [om,q4];done)
  | (intro e;simp_all;done)
  | (simp_all;done)
theorem J8 (l m:List Fld):bI (l++m)=bI l++bI m:=by simp [bI]
theorem Ja {f:ByteArray} (r:f∈forms n) (j:l.map (·.k)=f.data.toList.map (·.toNat)) (h:∀x∈l,okF x/\Kg x):dL (forms n) (bI l)=some l:=by
 rcases Er n with I | rfl | rfl
 ·generalize forms n=fs at r I
  match fs,r,I with
  | [g],r,_ =>
   simp only [Ym] at r;subst r;exact fV (jr j h 0)
  | [],r,_=>simp at r
 ·rw [N7] at r ⊢
  simp only [Yz,List.not_mem_nil,or_false] at r;rcases r with rfl | rfl
  ·exact fV (jr j h 0)
  ·rw [iR]
   ·exact fV (jr j h 0)
   ·match l,j,h with
    | [x,y],j,h =>
     simp only [List.map_cons,List.map_nil,List.cons.injEq,and_true] at j;have A:=h x Z3;have B:=h y Z3;obtain ⟨kx,ky⟩:=j
     have K:(aH x).2=bi (dW x.s)/\(dW x.s).length<4294967296:=by
      have u:=A.1.2;have R:=A.2.1;have S:=o8 x.s;unfold aH at u ⊢;rw [Y5 (by rw [kx];decide),Y5 (by rw [kx];decide),Y6 (by rw [kx];rfl)] at u ⊢
      split at u
      ·simp at u
      ·rename_i v
       rw [Y5 v];exact ⟨iK (by simpa using v),Z0⟩
     have L:(aH y).2=bi (dW y.s)/\(dW y.s).length<4294967296:=by
      have u:=B.1.2;have R:=B.2.1;have S:=o8 y.s;unfold aH at u ⊢;rw [Y5 (by rw [ky];decide),Y5 (by rw [ky];decide),Y6 (by rw [ky];rfl)] at u ⊢
      split at u
      ·simp at u
      ·rename_i v
       rw [Y5 v];exact ⟨iK (by simpa using v),Z0⟩
     intro G o;rw [fB,fB,K.1,L.1,show bI []=[] from rfl] at o;have N:dx (116:UInt8).toNat (bi (dW x.s)++(bi (dW y.s)++[]))=_:=yT (.inr rfl) K.2 _;have O:dx (116:UInt8).toNat (bi (dW y.s)++[])=_:=yT (.inr rfl) L.2 _;have Q:dx (116:UInt8).toNat []=_:=OV (.inr (.inl rfl))
     have U:aQ [116,116,116] (bi (dW x.s)++(bi (dW y.s)++[])) 0=.no 4 2:=by
      rw [jg N,jg O,oO Q];rfl
     rw [show (⟨#[116,116,116]⟩:ByteArray).data.toList=[116,116,116] from rfl,U] at o;cases o
    | [],j,_=>simp at j
    | [_],j,_=>simp at j
    | _ :: _ :: _ :: _,j,_=>simp at j
 ·rw [Mw] at r ⊢
  have cut:∀(g:List UInt8) (m:Nat),l.map (·.k)=(g++(f.data.toList.drop m)).map (·.toNat)->g.length=m->g.length<l.length->∀G,aQ g (bI l) 0≠.ok G:=by
   intro g m T z V G o;have F:l=l.take m++l.drop m:=(List.take_append_drop m l).symm
   have C:(l.take m).map (·.k)=g.map (·.toNat):=by
    rw [List.map_take,T,List.map_append,List.take_append_of_le_length (by simp [z]),Yp (by simp [z])]
   have D:bI (l.drop m)≠[]:=by
    have hd:l.drop m≠[]:=by
     intro e;have:=Ye List.length e;simp at this;omega
    obtain ⟨y,q,J⟩:=List.exists_cons_of_ne_nil hd;have B:y∈l:=List.mem_of_mem_drop (by rw [J];simp);rw [J,fB];intro e;exact Uy (h y B).1 (List.append_eq_nil_iff.1 e).1
   rw [F,J8] at o;rw [Eu C (fun x A=>h x (List.mem_of_mem_take A)) D 0] at o;cases o
  simp only [Yz,List.not_mem_nil,or_false] at r;have p:=Ye List.length j;simp only [Yd] at p;rcases r with rfl | rfl | rfl
  ·exact fV (jr j h 0)
  ·rw [iR (cut [115,115,115] 3 j rfl (by rw [p];decide))]
   exact fV (jr j h 0)
  ·rw [iR (cut [115,115,115] 3 j rfl (by rw [p];decide)),iR (cut [115,115,115,98,115,116] 6 j rfl (by rw [p];decide))]
   exact fV (jr j h 0)
theorem oM {m:Nat} (h:(fit n m).2=true):(fit n m).1∈forms n/\(fit n m).1.size=m:=by
 unfold fit at h ⊢
 split at h
 ·rename_i s hs
  have g:=List.mem_of_find?_eq_some hs;have j:=List.find?_some hs;simp only [beq_iff_eq] at j;exact ⟨g,show s.size=m by omega⟩
 ·cases h
theorem uf (h:forms n≠[]):1<=n/\n<=60:=by
 by_cases g:1<=n/\n<=60
 ·exact g
 ·exfalso
  apply h;unfold forms
  repeat rw [Y5 Z0]
theorem Rb (C:∀x∈l,Kg x) (h:encS n l=.ok s):dC s=.ok n.toNat l/\1<=n/\n<=60/\1<=s.length/\s.length<=32768:=by
 unfold encS at h
 split at h
 ·rename_i B
  obtain ⟨j,A⟩:=oM B;have p:=uf (n:=n) (by intro e;rw [e] at j;simp at j);obtain ⟨u,v,z,g⟩:=tY (A.symm.trans (show (fit n l.length).1.size=(fit n l.length).1.data.toList.length from rfl)) h
  have o:((UInt8.ofNat n.toNat).toNat:Nat)=n.toNat:=by
   rw [UInt8.toNat_ofNat'];omega
  have hs:s.length<=32768:=by
   rcases g with g | g
   ·exact g
   ·rw [g];simp
  have hp:=Ja j u (fun x q=>⟨v x q,C x q⟩);subst z;refine ⟨?_,p.1,p.2,Z3,hs⟩;rw [List.singleton_append] at hs ⊢;have:=qN (c:=UInt8.ofNat n.toNat) (r:=bI l) hs (by rw [o,show ((n.toNat:Nat):Int)=n from Z0];exact hp);rw [this,o]
 ·cases h
theorem IK {n:Nat} (h:dC p=.ok n l):encS n l=.ok p/\p.length<=32768:=by
 obtain ⟨c,r,rfl,rfl,z,B⟩:=MB h;obtain ⟨f,C,D⟩:=FC B;obtain ⟨u,A,v⟩:=FR D;have j:=Ye List.length u;simp only [Yd] at j;obtain ⟨i,hi,o⟩:=YM C;have g:=SF (c.toNat:Int) hi;rw [o] at g;have q:(l.length:Int)=(f.size:Int):=by rw [j];rfl
 refine ⟨?_,z⟩;unfold encS;rw [q,g,Y6 rfl,Dg u A]
 ·rw [v]
  simp
 ·rw [<-v]
  simpa using z
end Go.Proofs.YtnhekaepgpbijaaGreatDoor

namespace Go.Proofs.YtnhekaepgpbijaaGreatDoor
open Go.Proofs.Tryz Go.ChangeShapes Go.WideShapes Go.ChangeAt Go.RowKit
open Go.ChangeMaps (open_string shut_string)
theorem own:ownKnob prog.godebug=none:=Z1
theorem laidOut:laidOutB prog=true:=Z1

section
variable {H : Type} {enc : TypeId × Value -> H} {P : Program}
theorem yo {W u:World} (C:laidOutB P=true) (B:Below W.heap.size W u):∀(ts:List TypeId) (o:List Value) (g:List (DataW H)) (ps:List MemPlace),
  ts.all (fun t=>P.readableRec t && decide (t<P.types.size))=true->DataW.TrodAll enc P W 0 (fun _=>true) true ts o g ps ->
  DataW.TrodAll enc P u 0 (fun b=>decide (b<W.heap.size)) true ts o g ps:=by
 intro ts
 induction ts with
 | nil =>
  intro o g ps _ h;obtain ⟨rfl,rfl,rfl⟩:=trodAll_nil h;exact trodAll_mk0
 | cons t ts ih =>
  intro o g ps j h;obtain ⟨v,F,d,ds',p,q,rfl,rfl,rfl,z,A⟩:=trodAll_cons h;simp only [List.all_cons,YF,Yw] at j
  have r:∀x∈p,x.block<W.heap.size:=by
   obtain ⟨m,D⟩:=z;exact DataW.trod_lt m _ _ _ D
  exact trodAll_cons_mk (Below.trod C j.1.1 j.1.2 z B r) (ih _ _ _ j.2 A)

theorem OP {f:Func} {s:ChangeSpec} {W z:World} {args:Array Value} {j gs:List (DataW H)} {g:List MemPlace} (D:TypeId) (I:laidOutB P=true)
  (K:f.params.toList.all (fun t=>P.readableRec t && decide (t<P.types.size))=true) (o:f.resultTypes=#[D]) (v:P.underlying D=some .bool) (C:s.vars=[])
  (B:DataW.Whole enc P f.params.toList s.vars false W args.toList j gs g)
  (hs:∀ds':List (DataW H),ds'.length=j.length->ds'=j->s.fn H ds'={ results:=[.lit (.bool true)],args:=ds' })
  (bel:Below W.heap.size W z):s.post enc P f false true false false W args (.bool true) z:=by
 have r:=B;obtain ⟨p,q,F,A,rfl,G,J⟩:=B
 have u:gs=[]/\q=[]:=by
  rw [C] at A;exact trodVars_none A
 obtain ⟨rfl,rfl⟩:=u;have e:=hs j rfl rfl;refine ⟨j,[],_,[],p,[],r,?_,?_,?_,bel.frame _,fun h=>ZM⟩
 ·rw [List.append_nil,e,o]
  exact trodAll_mk1 (shut_bool v _)
 ·rw [List.append_nil,e]
  exact yo I bel _ _ _ _ K F
 ·rw [List.append_nil,e,C]
  rfl

end
end Go.Proofs.YtnhekaepgpbijaaGreatDoor

namespace Go.Proofs.YtnhekaepgpbijaaGreatDoor
open Go.Proofs.Tryz Go.ChangeShapes Go.WideShapes Go.ChangeAt Go.RowKit
variable {α:Type} {a:Addr} {W:World} {r:Reach} {t:TypeId} {v:Value} {ps:List MemPlace}
inductive Shp where
 | b
 | i (k:IntKind)
 | s
 | sl (l:List Shp)

mutual
def Shp.ok (w:World):Shp->Value->Prop
 | .b,v=>∃x,v=.bool x
 | .i k,v=>∃n,v=.int k n/\(Lit.int k n).wf=true
 | .s,v=>∃s:ByteArray,v=.string s/\s.size<=maxLen
 | .sl l,v=>∃A n c,v=.slice A n c/\n<=c/\c<=maxLen/\∀j,j<n->∃ad us,A=some ad/\(∀i u,us[i]?=some u->w.cell? (ad.add (j*l.length+i))=some u)/\Shp.oks w l us
def Shp.oks (w:World):List Shp->List Value->Prop
 | [],[]=>True
 | a :: l,v :: vs=>Shp.ok w a v/\Shp.oks w l vs
 | _,_=>False
end
def Shp.zero:Shp->Value
 | .b=>.bool false
 | .i k=>.int k 0
 | .s=>.string ByteArray.empty
 | .sl _=>.slice none 0 0
theorem GR {w:World}:∀{l:List Shp} {us:List Value},Shp.oks w l us->us.length=l.length
 | [],[],_=>rfl
 | [],_ :: _,h=>by simp [Shp.oks] at h
 | _ :: _,[],h=>by simp [Shp.oks] at h
 | _ :: l,_ :: us,h=>by
  simp only [Shp.oks] at h;simp [GR h.2]
theorem pX {w:World}:∀{l m:List Shp} {us vs:List Value},Shp.oks w l us->Shp.oks w m vs->Shp.oks w (l++m) (us++vs)
 | [],_,[],_,_,h=>h
 | [],_,_ :: _,_,h,_=>by simp [Shp.oks] at h
 | _ :: _,_,[],_,h,_=>by simp [Shp.oks] at h
 | _ :: l,m,_ :: us,vs,h,h'=>by
  simp only [Shp.oks,YD] at h ⊢;exact ⟨h.1,pX h.2 h'⟩

def Nu:List (Nat × List Shp)->Nat->Option (List Shp)
 | [],_=>some []
 | (o,l) :: r,p=>if o=p then (Nu r (p+l.length)).map (l++·) else none
def shapes (P:Program):Nat->TypeId->Option (List Shp)
 | 0,_=>none
 | n+1,t =>
  match P.underlying t with
  | some .bool=>some [.b]
  | some (.int k)=>some [.i k]
  | some .string=>some [.s]
  | some (.slice e)=>(shapes P n e).bind fun l=>if l.length=P.cellsOf e then some [.sl l] else none
  | some (.struct fs)=>(fs.toList.mapM fun f=>(shapes P n f.type).bind fun l=>if l.length=P.cellsOf f.type then some (f.offset,l) else none).bind fun ls=>(Nu ls 0).bind fun l=>if l.length=P.cellsOf t then some l else none
  | some (.array m e)=>(shapes P n e).bind fun l=>if l.length=P.cellsOf e/\m*l.length=P.cellsOf t then some (List.replicate m l).flatten else none
  | _=>none

theorem OZ {w:World} {cs:List Value}:∀(ls:List (Nat × List Shp)) (p:Nat) (l:List Shp),Nu ls p=some l->(∀q∈ls,Shp.oks w q.2 ((cs.drop q.1).take q.2.length))->p+l.length=cs.length->Shp.oks w l (cs.drop p):=by
 intro ls
 induction ls with
 | nil =>
  intro p l h _ g;simp only [Nu,Option.some.injEq] at h;subst h;rw [List.drop_eq_nil_of_le (by simp at g;omega)];simp [Shp.oks]
 | cons q r ih =>
  obtain ⟨o,j⟩:=q;intro p l h u g;simp only [Nu] at h
  split at h
  ·rename_i C
   subst C;simp only [Option.map_eq_some_iff] at h;obtain ⟨D,z,rfl⟩:=h;have v:=u (o,j) Z3;have A:=ih _ _ z (fun q B=>u q (by simp [B])) (by simp at g;omega);have:=pX v A;rwa [show (cs.drop o).take j.length++cs.drop (o+j.length)=cs.drop o by rw [<-Yr];exact List.take_append_drop _ _] at this
  ·cases h
theorem QD {w:World} {l:List Shp}:∀(m:Nat) (cs:List Value),cs.length=m*l.length->(∀i,i<m->Shp.oks w l ((cs.drop (i*l.length)).take l.length))->Shp.oks w (List.replicate m l).flatten cs:=by
 intro m
 induction m with
 | zero =>
  intro cs hl _;obtain rfl:=Yc Xu;simp [Shp.oks]
 | succ m ih =>
  intro cs hl h;rw [List.replicate_succ,List.flatten_cons];have g:=h 0 Z0;rw [Nat.zero_mul,List.drop_zero] at g
  have j:=ih (cs.drop l.length) (by rw [Yu,hl,Nat.succ_mul];omega) (fun i hi=>by
   have:=h (i+1) Z0
   rwa [Yr,show l.length+i*l.length=(i+1)*l.length by rw [Nat.succ_mul];omega])
  have:=pX g j;rwa [List.take_append_drop] at this
theorem mapM_mem {p:Type} {f:α->Option p}:∀{l:List α} {r:List p},l.mapM f=some r->∀y∈r,∃x,x∈l/\f x=some y:=by
 intro l
 induction l with
 | nil=>intro r h;simp at h;subst h;simp
 | cons x xs ih =>
  intro r h y o;rw [List.mapM_cons] at h
  cases j:f x with
  | none=>simp [j] at h
  | some z =>
   cases g:xs.mapM f with
   | none=>simp [j,g] at h
   | some ys =>
    simp [j,g] at h;subst h;rcases Yz.1 o with rfl | o
    ·exact ⟨x,Z3,j⟩
    ·obtain ⟨v,q,u⟩:=ih g y o
     exact ⟨v,by simp [q],u⟩
theorem Gf {w:World} {base:Nat} {n:Nat} {us:List Value} (h:w.cells? base a n=some us):us.length=n/\∀i u,us[i]?=some u->w.cell? (a.add i)=some u:=by
 unfold World.cells? at h
 split at h
 ·have o:us.length=n:=by simpa using mapM_some_length h
  refine ⟨o,fun i u j=>?_⟩
  have hi:i<n:=by
   rcases Nat.lt_or_ge i us.length with p | g
   ·omega
   ·rw [YJ g] at j;cases j
  have:=mapM_some_get h i i (by simp [hi]);rw [this,j]
 ·cases h

section
variable {H : Type} {enc : TypeId × Value -> H} {P : Program} {w : World} {base : Nat} {spare : Nat -> Bool} {held : Bool}
theorem vN:∀(n:Nat) (t:TypeId) (l:List Shp),shapes P n t=some l->∀(r:Nat) (cs:List Value) (x:DataW H × List MemPlace),DataW.trod enc P w base spare held r t cs=some x->Shp.oks w l cs:=by
 intro n
 induction n with
 | zero=>intro t l h;simp [shapes] at h
 | succ n ih =>
  intro t l h r cs x A;unfold shapes at h
  split at h
  ·rename_i p
   simp only [Option.some.injEq] at h;subst h;obtain ⟨b,rfl,_⟩:=DataW.trod_bool p A;simp [Shp.oks,Shp.ok]
  ·rename_i k p
   simp only [Option.some.injEq] at h;subst h;obtain ⟨b,rfl,_,hw⟩:=DataW.trod_int p A;simp only [Shp.oks,Shp.ok];exact ⟨⟨_,rfl,hw⟩,trivial⟩
  ·rename_i p
   simp only [Option.some.injEq] at h;subst h;obtain ⟨b,rfl,_,hw⟩:=DataW.trod_string p A;simp only [Shp.oks,Shp.ok];exact ⟨⟨_,rfl,hw⟩,trivial⟩
  ·rename_i e p
   simp only [Option.bind_eq_some_iff] at h;obtain ⟨le,z,h⟩:=h
   split at h
   ·rename_i o
    simp only [Option.some.injEq] at h;subst h;rcases DataW.trod_slice p A with ⟨rfl,_⟩ | ⟨a,len,cap,F,rest,m,_,rfl,_,_,N,hcm,T,hi,_⟩
    ·simp only [Shp.oks,Shp.ok]
     exact ⟨⟨none,0,0,rfl,Y2 _,Yb _,fun j L=>absurd L (Nat.not_lt_zero _)⟩,trivial⟩
    ·simp only [Shp.oks,Shp.ok]
     refine ⟨⟨some a,len,cap,rfl,N,hcm,fun j L=>?_⟩,trivial⟩;have v:=hi j L;rw [Y1 Z0,Option.bind_eq_some_iff] at v;obtain ⟨us,hus,D⟩:=v;obtain ⟨_,S⟩:=Gf hus;refine ⟨a,us,rfl,fun i u p=>?_,ih _ _ z _ _ _ D⟩;rw [o,<- qp];exact S i u p
   ·cases h
  ·rename_i fs p
   simp only [Option.bind_eq_some_iff] at h;obtain ⟨ls,Q,V,B,h⟩:=h
   split at h
   ·rename_i o
    simp only [Option.some.injEq] at h;subst h;obtain ⟨X,m,_,_,G,R,I⟩:=DataW.trod_struct p A;have:=OZ (w:=w) (cs:=cs) ls 0 V B (fun q U=>?_) Z0
    ·exact this
    ·obtain ⟨f,K,g⟩:=mapM_mem Q q U
     simp only [Option.bind_eq_some_iff] at g;obtain ⟨Y,O,g⟩:=g
     split at g
     ·rename_i C
      simp only [Option.some.injEq] at g;subst g;obtain ⟨i,hi,J⟩:=YM K;have v:=I i f (by rw [<-J];simp);rw [Y1 (by simp at hi;omega)] at v;have D:=ih _ _ O _ _ _ v;rw [<-C] at D;exact D
     ·cases g
   ·cases h
  ·rename_i m e p
   simp only [Option.bind_eq_some_iff] at h;obtain ⟨le,z,h⟩:=h
   split at h
   ·rename_i o
    simp only [Option.some.injEq] at h;subst h;obtain ⟨X,Z,_,_,G,R,I⟩:=Go.DataW.trod_array p A;refine QD m cs Z0 fun i hi=>?_
    have v:=I i hi;rw [Y1 Z0,<- o.1] at v;exact ih _ _ z _ _ _ v
   ·cases h
  ·cases h
theorem C9 {o:Nat} {fs:Array Field} {d:DataW H} (n:Nat) {l:List Shp} (q:P.underlying t=some (.struct fs)) (hs:shapes P n t=some l)
  (j:Value.okWide P W r o t v) (h:DataW.Trod enc P W base spare held t v d ps):∃cs:List Value,v=.agg cs.toArray/\Shp.oks W l cs:=by
 simp only [Value.okWide,q] at j;obtain ⟨cs,rfl,_⟩:=j;obtain ⟨g,p⟩:=h;obtain ⟨cs⟩:=cs;exact ⟨cs,rfl,vN n t l hs _ _ _ p⟩
theorem open_slice {j:Nat} {e:TypeId} {d:DataW H} (n:Nat) {l:List Shp} (p:P.underlying t=some (.slice e)) (hs:shapes P n t=some [.sl l])
  (q:Value.okWide P W r j t v) (h:DataW.Trod enc P W base spare held t v d ps):Shp.ok W (.sl l) v:=by
 obtain ⟨u,z,c0,rfl⟩:=okWide_slice p q;obtain ⟨g,o⟩:=h;have h:=vN n t _ hs _ _ _ o;simp only [Value.cells,Shp.oks] at h;exact h.1
end

theorem BN {w:World} (h:w.cell? a=some v):a.block<w.heap.size:=World.block_lt_of_cell? w _ h
section
variable {w : World}
theorem SS [Inhabited α] {l:List Shp} (R:α->List Value->Prop) (h:Shp.ok w (.sl l) v) (C:∀us,Shp.oks w l us->∃a,R a us) :
  ∃A c,∃q:List α,v=.slice A q.length c/\q.length<=c/\c<=maxLen/\∀j (p:j<q.length),∃g us,A=some g/\(∀i u,us[i]?=some u->w.cell? (g.add (j*l.length+i))=some u)/\R q[j] us:=by
 simp only [Shp.ok] at h;obtain ⟨A,n,c,rfl,J,r,h⟩:=h
 have o:∀j,∃a:α,j<n->∃g us,A=some g/\(∀i u,us[i]?=some u->w.cell? (g.add (j*l.length+i))=some u)/\R a us:=by
  intro j
  by_cases p:j<n
  ·obtain ⟨g,us,e,r,I⟩:=h j p
   obtain ⟨a,D⟩:=C us I;exact ⟨a,fun _=>⟨g,us,e,r,D⟩⟩
  ·exact ⟨default,fun h=>absurd h p⟩
 obtain ⟨f,F⟩:=Classical.axiomOfChoice o;have G:((List.range n).map f).length=n:=Z3;refine ⟨A,c,(List.range n).map f,by rw [G],Z0,r,fun j p=>?_⟩;obtain ⟨g,us,e,z,B⟩:=F j Z0;exact ⟨g,us,e,z,by simpa using B⟩
instance:Inhabited {s:ByteArray // s.size<=maxLen}:=⟨⟨⟨#[]⟩,Yb _⟩⟩
theorem Q8 (h:Shp.ok w (.sl [.s]) v):∃ss:List ByteArray,Strs 0 w v ss/\ss.length<=maxLen/\∀s∈ss,s.size<=maxLen:=by
 obtain ⟨A,c,C,rfl,N,O,h⟩:=SS (α:={s:ByteArray // s.size<=maxLen}) (fun a us=>us=[.string a.1]) h (fun us g=>by
  match us,g with
  | [u],g =>
   simp only [Shp.oks,Shp.ok,and_true] at g;obtain ⟨s,rfl,hs⟩:=g;exact ⟨⟨s,hs⟩,rfl⟩
  | [],g=>simp [Shp.oks] at g
  | _ :: _ :: _,g=>simp [Shp.oks] at g)
 refine ⟨C.map (·.1),⟨A,c,Z3,?_⟩,by simp;omega,fun s hs=>by obtain ⟨y,_,rfl⟩:=List.mem_map.1 hs;exact y.2⟩;refine ⟨Z3,fun F=>?_⟩;simp only [Yd] at F;obtain ⟨G,us,e,J,K⟩:=h 0 F;refine ⟨G,e,Yb _,?_,fun j u r=>?_⟩
 ·subst K
  have:=BN (J 0 _ rfl);rwa [ax] at this
 ·have o:j<C.length:=by
   rcases Nat.lt_or_ge j C.length with z | q
   ·exact z
   ·rw [YJ (by simpa using q)] at r;cases r
  obtain ⟨I,L,D,p,B⟩:=h j o;rw [e] at D;cases D
  subst B;have:=p 0 _ rfl;simp only [YA,Nat.mul_one,Nat.add_zero] at this;rw [this];simpa [o] using r
end
end Go.Proofs.YtnhekaepgpbijaaGreatDoor

namespace Go.Proofs.YtnhekaepgpbijaaGreatDoor
open Go.Proofs.Tryz Go.RowKit Go.ChangeShapes Go.WideShapes Go.ChangeAt
variable {w w':World} {v:Value}
def Txc (w:World) (v:Value) (ls:List (List UInt8)):Prop:=Txs w v ls/\∃A c,v=.slice A ls.length c/\ls.length<=c
theorem Txc.below {ls:List (List UInt8)} (h:Txc w v ls) (g:Below w.heap.size w w'):Txc w' v ls:=⟨h.1.below g,h.2⟩
theorem uM (w:World) (c:Nat):Txc w (.slice none 0 c) []:=⟨IV w c,none,c,rfl,Yb _⟩
structure ik (w:World) (A:Option Addr) (l:List Fld):Prop where
 at_:∀i x,l[i]?=some x->∃ad lv,A=some ad/\ad.block<w.heap.size/\w.cell? (ad.add (i*4))=some (.int .u8 x.k)/\w.cell? ⟨(ad.add (i*4)).block,(ad.add (i*4)).off+1,none⟩=some (.int .i64 x.n)/\w.cell? ⟨(ad.add (i*4)).block,(ad.add (i*4)).off+2,none⟩=some (.string (bs x.s))/\w.cell? ⟨(ad.add (i*4)).block,(ad.add (i*4)).off+3,none⟩=some lv/\Txc w lv x.l/\x.k<256
theorem ik.below {A:Option Addr} {l:List Fld} (h:ik w A l) (g:Below w.heap.size w w'):ik w' A l:=by
 refine ⟨fun i x z=>?_⟩;obtain ⟨j,B,e,o,c0,c1,c2,c3,r,q⟩:=h.at_ i x z;have key:∀p:Addr,p.block=j.block->∀v,w.cell? p=some v->w'.cell? p=some v:=fun p hp v u=>(g.cell (p:=p) (by rw [hp];exact o)).trans u
 exact ⟨j,B,e,Yi o g.size,key _ (ax _ _) _ c0,key _ (by rw [ax]) _ c1,key _ (by rw [ax]) _ c2,key _ (by rw [ax]) _ c3,r.below g,q⟩
theorem OA (w:World) (A:Option Addr):ik w A []:=⟨fun i x g=>by simp at g⟩
structure V4 (x:Fld):Prop where
 k:x.k<256
 n:(Lit.int .i64 x.n).wf=true
 s:x.s.length<=maxLen
 ll:x.l.length<=maxLen
 l:∀y∈x.l,y.length<=maxLen
theorem Ma (h:Shp.ok w (.sl [.s]) v):∃ls:List (List UInt8),Txc w v ls/\ls.length<=maxLen/\∀y∈ls,y.length<=maxLen:=by
 have g:∃A n c,v=.slice A n c/\n<=c:=by
  simp only [Shp.ok] at h;obtain ⟨A,n,c,rfl,r,_⟩:=h;exact ⟨A,n,c,rfl,r⟩
 obtain ⟨ss,o,p,q⟩:=Q8 h;refine ⟨ss.map (·.data.toList),⟨?_,?_⟩,by simpa using p,?_⟩
 ·unfold Txs
  rw [List.map_map]
  have:ss.map (bs ∘ fun s:ByteArray=>s.data.toList)=ss:=by
   conv=>rhs;rw [<-List.map_id ss]
   rfl
  rw [this];exact o
 ·obtain ⟨A,c,e,_⟩:=o
  obtain ⟨B,D,C,j,u⟩:=g;rw [e] at j;injection j with e1 e2 e3;exact ⟨A,c,by rw [e,Yd],by rw [Yd];omega⟩
 ·intro y z
  obtain ⟨s,hs,rfl⟩:=List.mem_map.1 z;exact q s hs
instance:Inhabited Fld:=⟨⟨0,0,[],[]⟩⟩
end Go.Proofs.YtnhekaepgpbijaaGreatDoor
namespace Go.Proofs.YtnhekaepgpbijaaGreatDoor
open Go.Proofs.Tryz Go.RowKit
variable {t:Tm} {s:List UInt8}
def oK (s:List UInt8):Prop:=∃t,good t/\s=enc t/\t.k≠1
open Classical in
noncomputable def ofT (s:List UInt8):Option Tm:=if h:oK s then some h.choose else aM (bs s)
theorem Ib {u:Tm} (g:good t) (j:good u) (h:enc t=enc u):t=u :=
 (mX t u [] [] g j (by rw [List.append_nil,List.append_nil];exact h)).1
theorem Fb (g:good t) (j:t.k≠1):ofT (enc t)=some t:=by
 have h:oK (enc t):=⟨t,g,rfl,j⟩
 unfold ofT;rw [dif_pos h];exact Ye some (Ib g h.choose_spec.1 h.choose_spec.2.1).symm
theorem Gi (h:¬ oK s):ofT s=aM (bs s):=by unfold ofT;rw [dif_neg h]
theorem QN (h:oK s):txt (ofT s)=s:=by
 obtain ⟨t,j,rfl,g⟩:=h;rw [Fb j g];rfl
theorem V8 (s:ByteArray):enc (.mk 1 0 0 s [])=UInt8.ofNat 241 :: (q4 s.size++s.data.toList):=by
 simp [enc,head,mid,encs,aC]
theorem vB (s:ByteArray):(enc (.mk 1 0 0 s [])).length=s.size+5:=by
 rw [V8];simp [bM,aC];omega
theorem LP {s:ByteArray} (h:s.size<=131067):aM s=some (.mk 1 0 0 s []):=gV (by rw [vB];omega)
theorem Ll {s:ByteArray} (h:s.size<4294967296):good (.mk 1 0 0 s []):=tN ⟨rfl,rfl,rfl,h⟩
theorem mG (h:s.length<=100000):∃t,ofT s=some t/\fine t/\(enc t).length<=s.length+5:=by
 by_cases g:oK s
 ·obtain ⟨t,j,rfl,o⟩:=g
  exact ⟨t,Fb j o,⟨j,Z0⟩,Z0⟩
 ·have e:(bs s).size=s.length:=rfl
  refine ⟨_,by rw [Gi g];exact LP (by rw [e];omega),⟨Ll (by rw [e];omega),by rw [vB,e];omega⟩,by rw [vB,e];omega⟩
theorem Ro {n:Int} {f:ByteArray} (h:f∈forms n):f.size<=13:=by
 have key:∀g∈forms n,g.size<=13:=by
  unfold forms
  repeat' refine rR (P:=fun l:List ByteArray=>∀g∈l,g.size<=13) ?_ ?_
  all_goals decide
 exact key f h
theorem Kv {x:Fld} {l:List Fld} (h:x∈l):(aH x).2.length<=(bI l).length:=by
 induction l with
 | nil=>cases h
 | cons y l ih =>
  rw [fB,Ya];rcases Yz.1 h with rfl | h
  ·omega
  ·have:=ih h
   omega
end Go.Proofs.YtnhekaepgpbijaaGreatDoor
namespace Go.Proofs.YtnhekaepgpbijaaGreatDoor
open Go.Proofs.Tryz Go.RowKit Go.ChangeShapes Go.WideShapes Go.Sort
variable {s:List UInt8} {i:Nat}
def TV (ls:List (List UInt8)) (s:List UInt8) (w:World) (e:Ending) (w':World):Prop:=∃k:Int,e=.returned (.int .i64 k)/\w'=w/\decide (0<=k)=decide (s∈ls)
theorem Po {ls:List (List UInt8)} {w:World} (hi:i<ls.length) (h:ls[i]=s):TV ls s w (.returned (.int .i64 i)) w :=
 ⟨i,rfl,rfl,by rw [Y8 (show (0:Int)<=i by omega),Y8 (by rw [<-h];exact Yf hi)]⟩
theorem Sg {ls:List (List UInt8)} {w:World} (h:s ∉ ls):TV ls s w (.returned (.int .i64 (-1))) w :=
 ⟨-1,rfl,rfl,by rw [Y7 Z2,Y7 h]⟩
theorem CR {ls:List (List UInt8)} (hi:i<ls.length) (h:s ∉ ls.take i) (j:ls[i]≠s):s ∉ ls.take (i+1):=by
 rw [Yh hi,Yy,Ym];exact fun g=>g.elim h (fun e=>j e.symm)
section
variable {w : World} {A : Option Addr} {c : Nat} {ls : List (List UInt8)}
theorem zz9e3 {p_:Prop} (h_:p_:=by
 have HN:=hide (CR hlt H.out he);clear he H hA;go_wp2_with fail;go_round
 case rel=>exact ⟨k+1,hlt,by go_num,HN⟩
 case measure=>simp [intOf];omega):p_:=h_
theorem MZ (h:Txs w (.slice A ls.length c) ls) (r:ls.length<=9223372036854775807) (s:List UInt8):Calls prog 265 #[.slice A ls.length c,.string (bs s)] w (TV ls s w):=by
 obtain ⟨j,p,hv,hA⟩:=h.open_;obtain ⟨rfl,rfl⟩:j=A/\p=c:=Z8;clear hv h;go_enter func265,ntmps265;go_wp2_with fail
 go_loop [8] (fun i=>∃k:Nat,k<=ls.length/\i=.int .i64 k/\Hid (s ∉ ls.take k)) (fun i=>ls.length - (intOf i).toNat)
 case atStart=>exact ⟨0,Yb _,rfl,hide Z3⟩
 case round =>
  obtain ⟨k,z,rfl,H⟩:=hrel
  by_cases hlt:k<ls.length
  ·have g:(k:Int)<ls.length:=by omega
   obtain ⟨u,rfl,q,v⟩:=hA k hlt
   by_cases he:ls[k]=s
   ·have e1:((bs s).toList == (bs ls[k]).toList)=true:=by rw [he];exact beq_self_eq_true _
    have o:=hide (Po (w:=w) hlt he);clear he H hA;go_wp2_with fail;go_ret;exact o.out
   ·have e1:((bs s).toList == (bs ls[k]).toList)=false:=eX (fun e=>he (sN e).symm)
    exact zz9e3
  ·have g:¬ (k:Int)<ls.length:=by omega
   have HN:=hide (Sg (w:=w) (ls:=ls) (s:=s) (by have:=H.out;rwa [Yp Z0] at this));clear H hA;go_wp2_with fail;go_ret;exact HN.out
theorem Qg (h:Txs w (.slice A ls.length c) ls) (g:ls.length<=9223372036854775807) (s:List UInt8):Calls prog 205 #[.slice A ls.length c,.string (bs s)] w (fun e w'=>e=.returned (.bool (decide (s∈ls)))/\w'=w):=by
 have H:=hide (MZ h g s);clear h;generalize o:decide (s∈ls)=z;have q:=hide o;clear o;go_enter func205,ntmps205;go_wp2_with fail;refine H.out.mono ?_;rintro e w1 ⟨k,rfl,rfl,j⟩;have p:=hide (j.trans q.out);clear j H;go_wp2_with fail;go_ret;exact ⟨by rw [<-p.out];rfl,rfl⟩
theorem Dj (h:Txs w (.slice A ls.length c) ls) (g:ls.length<=9223372036854775807) (s:List UInt8):Calls prog 129 #[.slice A ls.length c,.string (bs s)] w (fun e w'=>e=.returned (.bool (decide (s∈ls)))/\w'=w):=by
 have H:=hide (Qg h g s);clear h;go_enter func129,ntmps129;go_wp2_with fail;refine H.out.mono ?_;rintro e w1 ⟨rfl,rfl⟩;go_wp2_with fail;go_ret;exact ⟨rfl,rfl⟩
theorem vO (h:Txs w (.slice A ls.length c) ls) (v:ls.length<=9223372036854775807) (s:List UInt8):Calls prog 78 #[.slice A ls.length c,.string (bs s)] w (fun e w'=>e=.returned (.bool (decide (s∈ls)))/\w'=w):=by
 obtain ⟨p,r,hv,hA⟩:=h.open_;obtain ⟨rfl,rfl⟩:p=A/\r=c:=Z8;clear hv h;generalize o:decide (s∈ls)=z;have j:=hide o;clear o;go_enter func78,ntmps78;go_wp2_with fail
 go_loop [5] (fun i=>∃k:Nat,k<=ls.length/\i=.int .i64 k/\Hid (s ∉ ls.take k)) (fun i=>ls.length - (intOf i).toNat)
 case atStart=>exact ⟨0,Yb _,rfl,hide Z3⟩
 case round =>
  obtain ⟨k,D,rfl,H⟩:=hrel
  by_cases hlt:k<ls.length
  ·have g:(k:Int)<ls.length:=by omega
   obtain ⟨B,rfl,u,C⟩:=hA k hlt
   by_cases he:ls[k]=s
   ·have e1:((bs ls[k]).toList == (bs s).toList)=true:=by rw [he];exact beq_self_eq_true _
    have q:=hide (show z=true from by rw [<-j.out];exact Y8 (by rw [<-he];exact Yf hlt));clear he H hA;go_wp2_with fail;go_ret;exact ⟨by rw [q.out];rfl,rfl⟩
   ·have e1:((bs ls[k]).toList == (bs s).toList)=false:=eX (fun e=>he (sN e))
    exact zz9e3
  ·have g:¬ (k:Int)<ls.length:=by omega
   have HN:=hide (show z=false from by rw [<-j.out];exact Y7 (by have:=H.out;rwa [Yp Z0] at this));clear H hA;go_wp2_with fail;go_ret;exact ⟨by rw [HN.out];rfl,rfl⟩
end
end Go.Proofs.YtnhekaepgpbijaaGreatDoor

namespace Go.Proofs.YtnhekaepgpbijaaGreatDoor
open Go.Proofs.Tryz
variable {l:List (List UInt8)} {s x:List UInt8}
structure Ws where
 rest:List (List UInt8)
 a:Bool
 b:Bool
 c:Bool
 d:Bool
theorem vK {l:List UInt8} (h:(44:UInt8) ∉ l):Lib.index l [44]=-1:=by
 induction l with
 | nil=>rfl
 | cons c r ih =>
  simp only [Yz,not_or] at h;simp only [Lib.index];rw [Y5 (by simp [h.1]),ih h.2];rfl
theorem uD (r:List UInt8) (h:(44:UInt8) ∉ x):Lib.index (x++44 :: r) [44]=x.length:=by
 induction x with
 | nil=>simp [Lib.index]
 | cons c x ih =>
  simp only [Yz,not_or] at h;simp only [YD,Lib.index];rw [Y5 (by simp [h.1]),ih h.2];have:(((x.length:Nat):Int) == -1)=false:=Z6;rw [this];simp
theorem Cv (l:List UInt8):(44:UInt8) ∉ l\/∃x r,l=x++44 :: r/\(44:UInt8) ∉ x:=by
 by_cases h:(44:UInt8)∈l
 ·obtain ⟨x,r,g,j⟩:=List.eq_append_cons_of_mem h
  exact .inr ⟨x,r,g,j⟩
 ·exact .inl h
theorem zV:∀(n:Nat) (l:List UInt8),l.length<=n->Lib.splitK [44] 0 (Lib.count l [44]) l=aN l:=by
 intro n
 induction n with
 | zero =>
  intro l g;have:l=[]:=Yc Z0;subst this;rfl
 | succ n ih =>
  intro l g;rcases Cv l with h | ⟨x,r,rfl,h⟩
  ·rw [Lib.count_miss (vK h),nN h]
   rfl
  ·have hi:=uD r h
   have hd:(x++44 :: r).drop (x.length+1)=r:=by
    rw [<-Yr,List.drop_left];rfl
   have j:Lib.count (x++44 :: r) [44]=1+Lib.count r [44]:=by
    rw [Lib.count_hit Z3 hi];rw [show ([44]:List UInt8).length=1 from rfl,hd]
   rw [j,Nat.add_comm,Lib.splitK,hi];have:(((x.length:Nat):Int) == -1)=false:=Z6;rw [this];simp only [Bool.false_eq_true,if_false,Int.toNat_natCast,Nat.add_zero];rw [show ([44]:List UInt8).length=1 from rfl,hd,List.take_left,qw h,ih r (by simp at g;omega)]
theorem qU (s:ByteArray):(Lib.splitB ⟨#[44]⟩ 0 (Lib.countB s ⟨#[44]⟩) s).map (·.data.toList)=aN s.data.toList:=by
 rw [Lib.splitB_data];exact zV _ _ (Y2 _)
theorem GG (l:List (List UInt8)):Lib.join l [44]=dV l:=by
 induction l with
 | nil=>rfl
 | cons x l ih =>
  cases l with
  | nil=>simp [Lib.join_one,dV]
  | cons y r =>
   rw [Lib.join_cons] at ih ⊢;rw [fK _ Z3,<- ih];simp [Lib.joinTail]
theorem xe (l:List UInt8):decide (0<=Lib.indexByte l 44)=l.contains 44:=(Lib.contains_iff_indexByte l 44).symm
theorem zA (h:∀c∈s,33<=c.toNat/\c.toNat<=126):bA s=(decide (1<=s.length) && decide (s.length<=64) && !(s.contains 44)):=by
 have j:(s.all fun c=>decide (33<=c.toNat) && decide (c.toNat<=126) && !(c == 44))=!(s.contains 44):=by
  induction s with
  | nil=>rfl
  | cons c r ih =>
   have g:=h c Z3;rw [List.all_cons,ih (fun d hd=>h d (by simp [hd])),List.contains_cons];simp only [g.1,g.2,decide_true,YH,Bool.not_or];rw [show (c == (44:UInt8))=((44:UInt8) == c) from by rw [Bool.eq_iff_iff,beq_iff_eq,beq_iff_eq];exact eq_comm]
 unfold bA;rw [j];cases s.contains 44 <;> simp
theorem lV {c:UInt8} (j:c∈s) (h:c.toNat<33\/126<c.toNat\/c=44):bA s=false:=by
 cases g:bA s with
 | false=>rfl
 | true =>
  exfalso;unfold bA at g;simp only [YF,List.all_eq_true,Yw,Bool.not_eq_true',Y3] at g;have:=g.1.1 c j;rcases h with h | h | h
  ·omega
  ·omega
  ·exact this.2 h
theorem Eb (h:∀c∈s,33<=c.toNat/\c.toNat<=126/\c≠44):bA s=(decide (1<=s.length) && decide (s.length<=64)):=by
 rw [zA (fun c g=>⟨(h c g).1,(h c g).2.1⟩)]
 have:s.contains 44=false:=by
  rw [List.contains_eq_mem];simp only [decide_eq_false_iff_not];intro j;exact (h 44 j).2.2 rfl
 rw [this];simp
theorem zi (j:l.length<=16) (o:x∈l) (g:bA x=false):bJ l=3:=by
 unfold bJ;rw [Y5 Z0,Y5];intro h;rw [List.all_eq_true] at h;rw [h x o] at g;cases g
theorem wV (g:l.length<=16) (h:∀x∈l,bA x=true):bJ l=0:=by
 unfold bJ;rw [Y5 Z0,Y6 (by rw [List.all_eq_true];exact h)]
theorem uz (g:16<l.length):bJ l=2:=by
 unfold bJ;rw [Y6 g]
end Go.Proofs.YtnhekaepgpbijaaGreatDoor
namespace Go.Proofs.YtnhekaepgpbijaaGreatDoor
open Go.Proofs.Tryz Go.RowKit
theorem Nw {α:Type} {f:α->List UInt8} {l:List α} {y:α} (h:y∈l):(f y).length<=((l.map f).flatten).length:=by
 induction l with
 | nil=>cases h
 | cons x l ih =>
  simp only [List.map_cons,List.flatten_cons,Ya];rcases Yz.1 h with rfl | h
  ·omega
  ·have:=ih h
   omega
theorem Sw (k:Nat):cntF k=0\/cntF k=1\/cntF k=2:=by
 unfold cntF
 split
 ·exact .inl rfl
 ·split
  ·exact .inr (.inr rfl)
  ·exact .inr (.inl rfl)
theorem Nn {s:List UInt8} (h:dU s=false):s.length<=(dW s).length:=by
 have g:=kK (dW s);rw [uq h] at g;exact g
theorem Pw {x:Fld} (h:okF x):x.s.length<=(aH x).2.length+16/\x.l.length<=16/\∀y∈x.l,y.length<=(aH x).2.length+64:=by
 obtain ⟨hp,p⟩:=h;rcases Sw x.k with j | j | j
 ·have e:=Ac hp j
  rw [e];exact ⟨Z3,Z3,fun y g=>by simp at g⟩
 ·have e:=qC hp j
  have q:x.l=[]:=Ye Fld.l e;clear e;refine ⟨?_,by rw [q];simp,fun y g=>by rw [q] at g;cases g⟩;unfold aH at p ⊢;unfold cntF at j
  split
  ·simp_all
  ·split
   ·simp_all
   ·split
    ·split
     ·simp_all
     ·rename_i r
      have o:dU x.s=false:=by simpa using r
      have:=Nn o;simp only;rw [iK o];simp only [bi,Ya,bM];omega
    ·split
     ·simp_all
     ·split
      ·split
       ·simp only
        omega
       ·simp_all
      ·split
       ·simp_all
       ·simp only [bi,Ya,bM]
        omega
 ·have e:=Ai hp j
  have hs:x.s=[]:=Ye Fld.s e;clear e;rw [hs];unfold aH at p ⊢;unfold cntF at j
  split
  ·simp_all
  ·split
   ·simp_all
   ·split
    ·simp_all
    ·split
     ·split
      ·rename_i hw
       obtain ⟨w1,w2⟩:=jE hw;exact ⟨Z3,w1,fun y g=>by have:=(gQ (w2 y g)).2;omega⟩
      ·simp_all
     ·split
      ·simp_all
      ·split
       ·split
        ·simp_all
        ·split
         ·simp_all
         ·refine ⟨Z3,Z0,fun y g=>?_⟩
          have:=Nw (f:=bi) g;simp only [bi,Ya,bM] at this;simp only [om,Ya,bM];omega
       ·simp_all
end Go.Proofs.YtnhekaepgpbijaaGreatDoor
