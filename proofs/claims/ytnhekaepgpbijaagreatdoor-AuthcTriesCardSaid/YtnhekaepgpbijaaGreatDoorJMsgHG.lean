/- Several of my texts in one: MsgG, PayP, MsgH. -/
import Derived.Test.YtnhekaepgpbijaaGreatDoorJSignPG
import Derived.Test.YtnhekaepgpbijaaGreatDoorJAsG
import Derived.Test.YtnhekaepgpbijaaGreatDoorJChnG
import Derived.ProofKit
import Derived.OpenShut
import Derived.ChangeOld
import Derived.HandedShaped
import Derived.ChangeArms
set_option linter.unusedVariables false
set_option linter.unusedSimpArgs false
set_option maxHeartbeats 40000000
set_option maxRecDepth 100000
namespace Go.Proofs.YtnhekaepgpbijaaGreatDoor
def bf (s:List UInt8):Bool:=(s.all fun c=>decide (33≤c.toNat) && decide (c.toNat≤126) && !(c == 44)) && decide (1≤s.length) && decide (s.length≤64)
def bF (l:List (List UInt8)):Nat:=if 16<l.length then 2 else if l.all bf=true then 0 else 3
def bv:List (List UInt8)→List UInt8
 | []=>[]
 | [x]=>x
 | x :: y :: r=>x++44 :: bv (y :: r)
def aX:List UInt8→List (List UInt8)
 | []=>[[]]
 | c :: r=>if c=44 then [] :: aX r else ((c :: (aX r).headD []) :: (aX r).tail)
theorem wG (s:List UInt8):aX s≠[]:=by
 cases s with
 | nil=>simp [aX]
 | cons c r =>
  unfold aX
  split <;> simp
theorem fe (x:List UInt8) {l:List (List UInt8)} (h:l≠[]):bv (x :: l)=x++44 :: bv l:=by
 cases l with
 | nil=>exact absurd rfl h
 | cons y r=>rfl
theorem yC (s:List UInt8):bv (aX s)=s:=by
 induction s with
 | nil=>rfl
 | cons c r ih =>
  have hne:=wG r;unfold aX
  split
  ·rename_i h
   rw [fe _ hne,ih,h];rfl
  ·cases hs:aX r with
   | nil=>exact absurd hs hne
   | cons x xs =>
    rw [hs] at ih
    cases xs with
    | nil =>
     simp only [bv] at ih;simp [bv,ih]
    | cons y ys =>
     rw [fe _ (by simp)] at ih;simp only [List.headD_cons,List.tail_cons];rw [fe _ (by simp),← ih];rfl
theorem qN {x:List UInt8} (h:(44:UInt8) ∉ x):aX x=[x]:=by
 induction x with
 | nil=>rfl
 | cons c r ih =>
  simp only [List.mem_cons,not_or] at h;unfold aX;rw [if_neg (fun e=>h.1 e.symm),ih h.2];rfl
theorem uK {x:List UInt8} (h:(44:UInt8) ∉ x) (r:List UInt8):aX (x++44 :: r)=x :: aX r:=by
 induction x with
 | nil=>simp [aX]
 | cons c x ih =>
  simp only [List.mem_cons,not_or] at h;rw [List.cons_append,aX,if_neg (fun e=>h.1 e.symm),ih h.2];rfl
theorem yM {l:List (List UInt8)} (hl:l≠[]) (h:∀x∈l,(44:UInt8) ∉ x):aX (bv l)=l:=by
 induction l with
 | nil=>exact absurd rfl hl
 | cons x l ih =>
  by_cases hn:l=[]
  ·subst hn
   exact qN (h x (by simp))
  ·rw [fe _ hn,uK (h x (by simp)),ih hn (fun y hy=>h y (by simp [hy]))]
def splitN (s:List UInt8):Nat × List (List UInt8):=if s=[] then (0,[]) else if bF (aX s)=0 then (0,aX s) else (bF (aX s),[])
theorem AJ {s:List UInt8} (h:bf s=true):(44:UInt8) ∉ s:=by
 intro hm;unfold bf at h;simp only [Bool.and_eq_true,List.all_eq_true] at h;have:=(h.1.1 44 hm).2;simp at this
theorem fH {s:List UInt8} (h:bf s=true):1≤s.length∧s.length≤64:=by
 unfold bf at h;simp only [Bool.and_eq_true,decide_eq_true_eq] at h;exact ⟨h.1.2,h.2⟩
theorem iK {l:List (List UInt8)} (h:bF l=0):l.length≤16∧∀x∈l,bf x=true:=by
 unfold bF at h
 split at h
 ·cases h
 ·split at h
  ·rename_i h2
   exact ⟨by omega,by simpa using h2⟩
  ·cases h
theorem iM (l:List (List UInt8)):bF l=0∨bF l=2∨bF l=3:=by
 unfold bF
 split
 ·exact .inr (.inl rfl)
 ·split
  ·exact .inl rfl
  ·exact .inr (.inr rfl)
theorem qO {l:List (List UInt8)} (h:bF l=0):splitN (bv l)=(0,l):=by
 obtain ⟨_,h2⟩:=iK h;unfold splitN
 by_cases hl:l=[]
 ·subst hl
  rfl
 ·have hs:=yM hl (fun x hx=>AJ (h2 x hx))
  have hne:bv l≠[]:=by
   intro e;rw [e] at hs;have h3:=h2 [] (by rw [←hs];simp [aX]);have:=fH h3;simp at this
  rw [if_neg hne,hs,if_pos h]
theorem Cz {s:List UInt8} {l:List (List UInt8)} (h:splitN s=(0,l)):bF l=0∧bv l=s:=by
 unfold splitN at h
 split at h
 ·rename_i hs
  injection h with _ h;subst h hs;exact ⟨rfl,rfl⟩
 ·split at h
  ·rename_i h2
   injection h with _ h;subst h;exact ⟨h2,yC s⟩
  ·rename_i h2
   injection h with h _;exact absurd h h2
theorem jd {l:List (List UInt8)} (h:∀x∈l,x.length≤64):(bv l).length≤l.length*65:=by
 induction l with
 | nil=>simp [bv]
 | cons x l ih =>
  have h1:=h x (by simp);have h2:=ih (fun y hy=>h y (by simp [hy]))
  by_cases hn:l=[]
  ·subst hn
   simp [bv];omega
  ·rw [fe _ hn]
   simp only [List.length_append,List.length_cons];omega
structure Fld where
 k:Nat
 n:Int
 s:List UInt8
 l:List (List UInt8)
def bC (s:List UInt8):List UInt8:=q4 s.length++s
def cntF (k:Nat):Nat:=if k=98∨k=117 then 0 else if k=110∨k=101 then 2 else 1
def bz (x:Fld):Bool:=(decide (cntF x.k=0) || decide (x.n=0)) && ((decide (cntF x.k=1) || x.s.isEmpty) && (decide (cntF x.k=2) || x.l.isEmpty))
def kY (l:List (List UInt8)):List UInt8:=q4 (l.length / 2)++(l.map bC).flatten
def aG (x:Fld):Nat × List UInt8 :=
 if x.k=98 then (if x.n=0 then (0,[0]) else if x.n=1 then (0,[1]) else (5,[]))
 else if x.k=117 then (if 0≤x.n∧x.n<4294967296 then (0,q4 x.n.toNat) else (5,[]))
 else if x.k=109 then (if dI x.s=true then (3,[]) else (0,fO x.s))
 else if x.k=110 then (if bF x.l=0 then (0,bC (bv x.l)) else (bF x.l,[]))
 else if x.k=99 then (if x.s.length=16 then (0,x.s) else (3,[]))
 else if x.k=101 then (if x.l.length % 2=1 then (3,[]) else if 16<x.l.length then (2,[]) else (0,kY x.l))
 else (0,bC x.s)
inductive Res (α:Type) where
 | ok (a:α) (r:List UInt8)
 | no (e:Nat)
def jV (n:Nat) (r:List UInt8):Res (List UInt8):=if r.length<n then .no 4 else .ok (r.take n) (r.drop n)
def pO (r:List UInt8):Res Int:=match r with
 | []=>.no 4
 | c :: r'=>if c.toNat≤1 then .ok c.toNat r' else .no 3
def mM (r:List UInt8):Res Nat:=if r.length<4 then .no 4 else .ok (n4 r) (r.drop 4)
def dz (r:List UInt8):Res (List UInt8):=if r.length<4 then .no 4 else if r.length - 4<n4 r then .no 4 else .ok ((r.drop 4).take (n4 r)) (r.drop (4+n4 r))
def dH (s:List UInt8):Bool:=match s with
 | []=>true
 | c :: r=>if 128≤c.toNat then false else if c.toNat=0 then (match r with | []=>false | d :: _=>decide (128≤d.toNat)) else true
def jF (r:List UInt8):Res (List UInt8):=match dz r with
 | .no e=>.no e
 | .ok s r'=>if dH s=true then .ok (bE s) r' else .no 3
def dw:Nat→List UInt8→Res (List (List UInt8))
 | 0,r=>.ok [] r
 | n+1,r=>match dz r with
  | .no e=>.no e
  | .ok s r'=>match dw n r' with
   | .no e=>.no e
   | .ok l r2=>.ok (s :: l) r2
def jQ (r:List UInt8):Res (List (List UInt8)):=match mM r with
 | .no e=>.no e
 | .ok n r'=>if 8<n then .no 2 else dw (2*n) r'
def nA (r:List UInt8):Res (List (List UInt8)):=match dz r with
 | .no e=>.no e
 | .ok s r'=>if (splitN s).1=0 then .ok (splitN s).2 r' else .no (splitN s).1
def Res.map {α β:Type} (f:α→β):Res α→Res β
 | .ok a r=>.ok (f a) r
 | .no e=>.no e
def dR (k:Nat) (r:List UInt8):Res Fld :=
 if k=98 then (pO r).map (fun n=>⟨k,n,[],[]⟩)
 else if k=117 then (mM r).map (fun n=>⟨k,(n:Nat),[],[]⟩)
 else if k=109 then (jF r).map (fun s=>⟨k,0,s,[]⟩)
 else if k=110 then (nA r).map (fun l=>⟨k,0,[],l⟩)
 else if k=99 then (jV 16 r).map (fun s=>⟨k,0,s,[]⟩)
 else if k=101 then (jQ r).map (fun l=>⟨k,0,[],l⟩)
 else (dz r).map (fun s=>⟨k,0,s,[]⟩)
theorem kD {s:List UInt8} (h:s.length<4294967296) (r:List UInt8):dz (bC s++r)=.ok s r:=by
 unfold dz bC;have hn:n4 (q4 s.length++s++r)=s.length:=by rw [List.append_assoc];exact xu h _
 have hlen:(q4 s.length++s++r).length=4+s.length+r.length:=by rw [List.length_append,List.length_append,bU]
 rw [hn,hlen,if_neg (by omega),if_neg (by omega)]
 have hd:(q4 s.length++s++r).drop 4=s++r:=by
  rw [List.append_assoc,List.drop_append_of_le_length (by simp [bU])];rfl
 rw [hd,← List.drop_drop,hd,List.take_left,List.drop_left]
theorem Ay {r:List UInt8} (h:¬ r.length<4):q4 (n4 r)++r.drop 4=r:=by
 match r,h with
 | x :: y :: z :: u :: q,_ =>
  rw [QY];rfl
 | [],h=>exact absurd (show ([]:List UInt8).length<4 by decide) h
 | [_],h=>exact absurd (by simp) h
 | [_,_],h=>exact absurd (by simp) h
 | [_,_,_],h=>exact absurd (by simp) h
theorem jX {r s r':List UInt8} (h:dz r=.ok s r'):r=bC s++r'∧s.length<4294967296:=by
 unfold dz at h
 split at h
 ·cases h
 ·rename_i h1
  split at h
  ·cases h
  ·rename_i h2
   injection h with h3 h4;have hs:=Ay h1;have hlt:=jT r;rw [←List.drop_drop] at h4;generalize n4 r=n at h2 h3 h4 hs hlt;have hl:s.length=n:=by rw [←h3,List.length_take,List.length_drop];omega
   refine ⟨?_,by rw [hl];exact hlt⟩;unfold bC;rw [hl,← h3,← h4,List.append_assoc,List.take_append_drop,hs]
theorem Jn {n:Nat} {r s r' r2:List UInt8} {l:List (List UInt8)} (h:dz r=.ok s r') (h2:dw n r'=.ok l r2):dw (n+1) r=.ok (s :: l) r2:=by
 simp only [dw];rw [h];simp only;rw [h2]
theorem DN {l:List (List UInt8)} (h:∀x∈l,x.length<4294967296) (r:List UInt8):dw l.length ((l.map bC).flatten++r)=.ok l r:=by
 induction l with
 | nil=>rfl
 | cons x l ih =>
  simp only [List.map_cons,List.flatten_cons,List.length_cons,List.append_assoc];exact Jn (kD (h x (by simp)) _) (ih (fun y hy=>h y (by simp [hy])))
theorem DC {n:Nat} {l:List (List UInt8)} {r r':List UInt8} (h:dw n r=.ok l r'):r=(l.map bC).flatten++r'∧l.length=n∧∀x∈l,x.length<4294967296:=by
 induction n generalizing r l with
 | zero =>
  simp only [dw] at h;injection h with h1 h2;subst h1 h2;exact ⟨rfl,rfl,by simp⟩
 | succ n ih =>
  simp only [dw] at h
  cases ht:dz r with
  | no e=>rw [ht] at h;cases h
  | ok s r1 =>
   rw [ht] at h;simp only at h
   cases h2:dw n r1 with
   | no e=>rw [h2] at h;cases h
   | ok l2 r2 =>
    rw [h2] at h;simp only at h;injection h with h3 h4;subst h3 h4;obtain ⟨e1,e2⟩:=jX ht;obtain ⟨e3,e4,e5⟩:=ih h2;refine ⟨by simp only [List.map_cons,List.flatten_cons,List.append_assoc];rw [e1,e3],by simp [e4],?_⟩;intro x hx;rcases List.mem_cons.1 hx with rfl | hx
    ·exact e2
    ·exact e5 x hx
theorem BJ {n:Nat} (h:n<4294967296) (r:List UInt8):mM (q4 n++r)=.ok n r:=by
 unfold mM;rw [if_neg (by simp [bU]),xu h];rfl
theorem sM {r r':List UInt8} {n:Nat} (h:mM r=.ok n r'):r=q4 n++r'∧n<4294967296:=by
 unfold mM at h
 split at h
 ·cases h
 ·rename_i h1
  injection h with h2 h3;have hs:=Ay h1;have hlt:=jT r;rw [h2] at hs hlt;rw [←h3];exact ⟨hs.symm,hlt⟩
theorem qX {s:List UInt8} (h:dI s=false):bE (dP s)=s:=by
 cases s with
 | nil=>rfl
 | cons c r =>
  unfold dP;simp only
  split
  ·show bE (0 :: c :: r)=_
   unfold bE;rw [List.dropWhile_cons_of_pos (by rfl)];exact gY (l:=c :: r) h
  ·exact gY h
theorem zT {s:List UInt8} (h:dI s=false):dH (dP s)=true:=by
 cases s with
 | nil=>rfl
 | cons c r =>
  unfold dP;simp only
  split
  ·rename_i h1
   simp [dH,h1]
  ·rename_i h1
   have:¬ c.toNat=0:=fun e=>by
    have:c=0:=UInt8.toNat_inj.1 (by simpa using e);subst this;simp [dI] at h
   simp [dH,h1,this]
theorem E8 {s:List UInt8} (h:dH s=true):dI (bE s)=false∧dP (bE s)=s:=by
 cases s with
 | nil=>exact ⟨rfl,rfl⟩
 | cons c r =>
  unfold dH at h;simp only at h
  split at h
  ·cases h
  ·rename_i h1
   split at h
   ·rename_i h2
    have hc:c=0:=UInt8.toNat_inj.1 (by simpa using h2);subst hc
    cases r with
    | nil=>cases h
    | cons d q =>
     simp only [decide_eq_true_eq] at h;have hd:¬ d=0:=fun e=>by subst e;simp at h
     have hp:bE (0 :: d :: q)=d :: q:=by
      unfold bE;rw [List.dropWhile_cons_of_pos (by rfl)];exact gY (l:=d :: q) (by simp [dI,hd])
     rw [hp];exact ⟨by simp [dI,hd],by simp [dP,h]⟩
   ·rename_i h2
    have hc:¬ c=0:=fun e=>by subst e;simp at h2
    have hp:bE (c :: r)=c :: r:=gY (by simp [dI,hc]);rw [hp];exact ⟨by simp [dI,hc],by simp [dP,h1]⟩
theorem jC {s:List UInt8} (h:dI s=false):fO s=bC (dP s):=by
 unfold fO bC;rw [gY h]
theorem Jl {r t q:List UInt8} (h:dz r=.ok t q):jF r=if dH t=true then .ok (bE t) q else .no 3:=by
 unfold jF;rw [h]
theorem wO {r t q:List UInt8} (h:dz r=.ok t q):nA r=if (splitN t).1=0 then .ok (splitN t).2 q else .no (splitN t).1:=by
 unfold nA;rw [h]
theorem tu {r q:List UInt8} {n:Nat} (h:mM r=.ok n q):jQ r=if 8<n then .no 2 else dw (2*n) q:=by
 unfold jQ;rw [h]
theorem CL {s:List UInt8} (h:dI s=false) (hl:s.length<4294967290) (r:List UInt8):jF (fO s++r)=.ok s r:=by
 have:=mr s;have hg:=kD (s:=dP s) (by omega) r;rw [←jC h] at hg;rw [Jl hg,if_pos (zT h),qX h]
theorem DW {r s r':List UInt8} (h:jF r=.ok s r'):r=fO s++r'∧dI s=false:=by
 unfold jF at h
 cases ht:dz r with
 | no e=>rw [ht] at h;cases h
 | ok t r1 =>
  rw [ht] at h;simp only at h
  split at h
  ·rename_i hw
   injection h with h1 h2;obtain ⟨e1,_⟩:=jX ht;obtain ⟨e3,e4⟩:=E8 hw;subst h1 h2;refine ⟨?_,e3⟩;rw [jC e3,e4,e1]
  ·cases h
def Dx (x:Fld):Prop:=x.s.length<4294967000∧∀y∈x.l,y.length<4294967000
theorem yE {x:Fld} (h:bz x=true) (hc:cntF x.k=0):x=⟨x.k,x.n,[],[]⟩:=by
 obtain ⟨k,n,s,l⟩:=x;simp only [bz] at h hc;simp_all
theorem rF {x:Fld} (h:bz x=true) (hc:cntF x.k=1):x=⟨x.k,0,x.s,[]⟩:=by
 obtain ⟨k,n,s,l⟩:=x;simp only [bz] at h hc;simp_all
theorem yL {x:Fld} (h:bz x=true) (hc:cntF x.k=2):x=⟨x.k,0,[],x.l⟩:=by
 obtain ⟨k,n,s,l⟩:=x;simp only [bz] at h hc;simp_all
theorem Res.map_ok {α β:Type} (f:α→β) (a:α) (r:List UInt8):(Res.ok a r).map f=.ok (f a) r:=rfl
theorem zf {k:Nat} (r:List UInt8) (h:k=98):dR k r=(pO r).map (fun n=>⟨k,n,[],[]⟩):=by unfold dR;rw [if_pos h]
theorem Bg {k:Nat} (r:List UInt8) (h:k=117):dR k r=(mM r).map (fun n=>⟨k,(n:Nat),[],[]⟩):=by unfold dR;rw [if_neg (by omega),if_pos h]
theorem zR {k:Nat} (r:List UInt8) (h:k=109):dR k r=(jF r).map (fun s=>⟨k,0,s,[]⟩):=by unfold dR;rw [if_neg (by omega),if_neg (by omega),if_pos h]
theorem Cc {k:Nat} (r:List UInt8) (h:k=110):dR k r=(nA r).map (fun l=>⟨k,0,[],l⟩):=by unfold dR;rw [if_neg (by omega),if_neg (by omega),if_neg (by omega),if_pos h]
theorem Gs {k:Nat} (r:List UInt8) (h:k=99):dR k r=(jV 16 r).map (fun s=>⟨k,0,s,[]⟩):=by unfold dR;rw [if_neg (by omega),if_neg (by omega),if_neg (by omega),if_neg (by omega),if_pos h]
theorem zJ {k:Nat} (r:List UInt8) (h:k=101):dR k r=(jQ r).map (fun l=>⟨k,0,[],l⟩):=by unfold dR;rw [if_neg (by omega),if_neg (by omega),if_neg (by omega),if_neg (by omega),if_neg (by omega),if_pos h]
theorem qo {k:Nat} (r:List UInt8) (h0:¬ k=98) (h1:¬ k=117) (h2:¬ k=109) (h3:¬ k=110) (h4:¬ k=99) (h5:¬ k=101):dR k r=(dz r).map (fun s=>⟨k,0,s,[]⟩):=by
 unfold dR;rw [if_neg h0,if_neg h1,if_neg h2,if_neg h3,if_neg h4,if_neg h5]
theorem jH (c:UInt8) (r:List UInt8):pO (c :: r)=if c.toNat≤1 then .ok c.toNat r else .no 3:=rfl
theorem CO {n:Nat} {s:List UInt8} (h:s.length=n) (r:List UInt8):jV n (s++r)=.ok s r:=by
 unfold jV;rw [if_neg (by rw [List.length_append];omega),← h,List.take_left,List.drop_left]
theorem get_put {x:Fld} {b:List UInt8} (hf:Dx x) (hp:bz x=true) (h:aG x=(0,b)) (r:List UInt8):dR x.k (b++r)=.ok x r:=by
 unfold aG at h
 split at h
 ·rename_i h0
  have e:=yE hp (by simp [cntF,h0])
  split at h
  ·rename_i hn
   injection h with _ h;subst h;rw [zf _ h0,List.singleton_append,jH,if_pos (by decide),Res.map_ok,e,hn];rfl
  ·split at h
   ·rename_i hn
    injection h with _ h;subst h;rw [zf _ h0,List.singleton_append,jH,if_pos (by decide),Res.map_ok,e,hn];rfl
   ·injection h with h _;cases h
 ·rename_i h0
  split at h
  ·rename_i h1
   have e:=yE hp (by simp [cntF,h1])
   split at h
   ·rename_i hn
    injection h with _ h;subst h;rw [Bg _ h1,BJ (by omega),Res.map_ok,show ((x.n.toNat:Nat):Int)=x.n from by omega,← e]
   ·injection h with h _;cases h
  ·rename_i h1
   split at h
   ·rename_i h2
    have e:=rF hp (by simp [cntF,h2])
    split at h
    ·injection h with h _;cases h
    ·rename_i ha
     injection h with _ h;subst h;rw [zR _ h2,CL (by simpa using ha) (by have:=hf.1;omega),Res.map_ok,← e]
   ·rename_i h2
    split at h
    ·rename_i h3
     have e:=yL hp (by simp [cntF,h3])
     split at h
     ·rename_i hw
      injection h with _ h;subst h;obtain ⟨w1,w2⟩:=iK hw;have hl:=jd (l:=x.l) (fun y hy=>(fH (w2 y hy)).2);have hs:=qO hw;rw [Cc _ h3,wO (kD (by omega) r),hs,if_pos rfl,Res.map_ok,← e]
     ·rename_i hw
      injection h with h _;exact absurd h hw
    ·rename_i h3
     split at h
     ·rename_i h4
      have e:=rF hp (by simp [cntF,h4])
      split at h
      ·rename_i hs
       injection h with _ h;subst h;rw [Gs _ h4,CO hs,Res.map_ok,← e]
      ·injection h with h _;cases h
     ·rename_i h4
      split at h
      ·rename_i h5
       have e:=yL hp (by simp [cntF,h5])
       split at h
       ·injection h with h _;cases h
       ·split at h
        ·injection h with h _;cases h
        ·rename_i ho hl
         injection h with _ h;subst h;have hg:=BJ (n:=x.l.length / 2) (by omega) ((x.l.map bC).flatten++r);have ht:=DN (l:=x.l) (fun y hy=>by have:=hf.2 y hy;omega) r;rw [←List.append_assoc] at hg;rw [zJ _ h5,show kY x.l=q4 (x.l.length / 2)++(x.l.map bC).flatten from rfl,tu hg,if_neg (by omega),show 2*(x.l.length / 2)=x.l.length from by omega,ht,Res.map_ok,← e]
      ·rename_i h5
       have e:=rF hp (by simp [cntF, *]);injection h with _ h;subst h;rw [qo _ h0 h1 h2 h3 h4 h5,kD (by have:=hf.1;omega),Res.map_ok,← e]
theorem FW {k:Nat} {r r':List UInt8} {x:Fld} (h:dR k r=.ok x r'):x.k=k∧bz x=true∧∃b,aG x=(0,b)∧r=b++r':=by
 unfold dR at h
 split at h
 ·rename_i h0
  subst h0
  cases r with
  | nil=>cases h
  | cons c q =>
   simp only [pO] at h
   split at h
   ·rename_i hc
    injection h with h1 h2;subst h1 h2;refine ⟨rfl,rfl,[c],?_,rfl⟩;have hcc:c.toNat=0∨c.toNat=1:=by omega
    rcases hcc with hcc | hcc
    ·have:c=0:=UInt8.toNat_inj.1 (by simpa using hcc)
     subst this;rfl
    ·have:c=1:=UInt8.toNat_inj.1 (by simpa using hcc)
     subst this;rfl
   ·cases h
 ·rename_i h0
  split at h
  ·rename_i h1
   subst h1
   cases hg:mM r with
   | no e=>rw [hg] at h;cases h
   | ok n q =>
    rw [hg] at h;injection h with h2 h3;subst h2 h3;obtain ⟨e1,e2⟩:=sM hg;refine ⟨rfl,rfl,q4 n,?_,e1⟩;simp only [aG];rw [if_neg (by omega),if_pos trivial,if_pos ⟨by omega,by omega⟩];simp
  ·rename_i h1
   split at h
   ·rename_i h2
    subst h2
    cases hg:jF r with
    | no e=>rw [hg] at h;cases h
    | ok s q =>
     rw [hg] at h;injection h with h3 h4;subst h3 h4;obtain ⟨e1,e2⟩:=DW hg;refine ⟨rfl,by simp [bz,cntF],fO s,?_,e1⟩;simp [aG,e2]
   ·rename_i h2
    split at h
    ·rename_i h3
     subst h3;unfold nA at h
     cases hg:dz r with
     | no e=>rw [hg] at h;cases h
     | ok s q =>
      rw [hg] at h;simp only at h
      split at h
      ·rename_i hs
       injection h with h4 h5;subst h4 h5;obtain ⟨e1,e2⟩:=jX hg;have hj:=Cz (s:=s) (l:=(splitN s).2) (by rw [←hs]);refine ⟨rfl,by simp [bz,cntF],bC s,?_,e1⟩;simp only [aG];rw [if_neg (by omega),if_neg (by omega),if_neg (by omega),if_pos trivial,if_pos hj.1,hj.2]
      ·cases h
    ·rename_i h3
     split at h
     ·rename_i h4
      subst h4;unfold jV at h
      split at h
      ·cases h
      ·rename_i hl
       injection h with h5 h6;subst h5 h6;refine ⟨rfl,by simp [bz,cntF],r.take 16,?_,(List.take_append_drop 16 r).symm⟩;simp only [aG];rw [if_neg (by omega),if_neg (by omega),if_neg (by omega),if_neg (by omega),if_pos trivial,if_pos (by rw [List.length_take];omega)]
     ·rename_i h4
      split at h
      ·rename_i h5
       subst h5;unfold jQ at h
       cases hg:mM r with
       | no e=>rw [hg] at h;cases h
       | ok n q =>
        rw [hg] at h;simp only at h
        split at h
        ·cases h
        ·rename_i hn
         cases ht:dw (2*n) q with
         | no e=>rw [ht] at h;cases h
         | ok l q2 =>
          rw [ht] at h;injection h with h6 h7;subst h6 h7;obtain ⟨e1,e2⟩:=sM hg;obtain ⟨e3,e4,e5⟩:=DC ht;refine ⟨rfl,by simp [bz,cntF],kY l,?_,?_⟩
          ·simp only [aG]
           rw [if_neg (by omega),if_neg (by omega),if_neg (by omega),if_neg (by omega),if_neg (by omega),if_pos trivial,if_neg (by omega),if_neg (by omega)]
          ·unfold kY
           rw [e4,show 2*n / 2=n from by omega,e1,e3,List.append_assoc]
      ·rename_i h5
       cases hg:dz r with
       | no e=>rw [hg] at h;cases h
       | ok s q =>
        rw [hg] at h;injection h with h6 h7;subst h6 h7;obtain ⟨e1,e2⟩:=jX hg;refine ⟨rfl,by simp [bz,cntF, *],bC s,?_,e1⟩;simp [aG, *]
end Go.Proofs.YtnhekaepgpbijaaGreatDoor

namespace Go.Proofs.YtnhekaepgpbijaaGreatDoor
open Go.RowKit
def forms (n:Int):List ByteArray :=
 if n=1 then [⟨#[117,115,115]⟩] else if n=2 then [⟨#[115]⟩] else if n=5 then [⟨#[115]⟩] else if n=6 then [⟨#[115]⟩]
 else if n=3 then [⟨#[117]⟩] else if n=4 then [⟨#[98,115,115]⟩] else if n=7 then [⟨#[101]⟩]
 else if n=20 then [⟨#[99,110,110,110,110,110,110,110,110,110,110,98,117]⟩] else if n=21 then [⟨#[]⟩] else if n=52 then [⟨#[]⟩]
 else if n=30 then [⟨#[116]⟩] else if n=32 then [⟨#[116]⟩] else if n=31 then [⟨#[116,116,116]⟩,⟨#[109,109]⟩]
 else if n=33 then [⟨#[116,116,116]⟩] else if n=34 then [⟨#[117,117,117]⟩]
 else if n=50 then [⟨#[115,115,115]⟩,⟨#[115,115,115,98,115,116]⟩,⟨#[115,115,115,98,115,116,116]⟩]
 else if n=51 then [⟨#[110,98]⟩] else if n=53 then [⟨#[115,115]⟩] else if n=60 then [⟨#[115,116]⟩] else []

theorem lU (n:Int):(forms n).length≤3:=by
 unfold forms
 repeat' refine pV (P:=fun l:List ByteArray=>l.length≤3) ?_ ?_
 all_goals decide
theorem qf (n:Int) (w:World) :
  Calls Tryz.prog 45 #[.int .i64 n] w fun e w'=>∃v,e=.returned v∧Strs w.heap.size w' v (forms n)∧Below w.heap.size w w':=by
 by_cases h1:n=1
 ·subst h1
  go_enter Tryz.func45,Tryz.ntmps45;go_wp2;go_ret;exact ⟨_,rfl,bK w 9 (forms 1) _ rfl,(Below.refl _ _).alloc (Nat.le_refl _) _⟩
 by_cases h2:n=2
 ·subst h2
  go_enter Tryz.func45,Tryz.ntmps45;go_wp2;go_ret;exact ⟨_,rfl,bK w 9 (forms 2) _ rfl,(Below.refl _ _).alloc (Nat.le_refl _) _⟩
 by_cases h5:n=5
 ·subst h5
  go_enter Tryz.func45,Tryz.ntmps45;go_wp2;go_ret;exact ⟨_,rfl,bK w 9 (forms 5) _ rfl,(Below.refl _ _).alloc (Nat.le_refl _) _⟩
 by_cases h6:n=6
 ·subst h6
  go_enter Tryz.func45,Tryz.ntmps45;go_wp2;go_ret;exact ⟨_,rfl,bK w 9 (forms 6) _ rfl,(Below.refl _ _).alloc (Nat.le_refl _) _⟩
 by_cases h3:n=3
 ·subst h3
  go_enter Tryz.func45,Tryz.ntmps45;go_wp2;go_ret;exact ⟨_,rfl,bK w 9 (forms 3) _ rfl,(Below.refl _ _).alloc (Nat.le_refl _) _⟩
 by_cases h4:n=4
 ·subst h4
  go_enter Tryz.func45,Tryz.ntmps45;go_wp2;go_ret;exact ⟨_,rfl,bK w 9 (forms 4) _ rfl,(Below.refl _ _).alloc (Nat.le_refl _) _⟩
 by_cases h7:n=7
 ·subst h7
  go_enter Tryz.func45,Tryz.ntmps45;go_wp2;go_ret;exact ⟨_,rfl,bK w 9 (forms 7) _ rfl,(Below.refl _ _).alloc (Nat.le_refl _) _⟩
 by_cases h20:n=20
 ·subst h20
  go_enter Tryz.func45,Tryz.ntmps45;go_wp2;go_ret;exact ⟨_,rfl,bK w 9 (forms 20) _ rfl,(Below.refl _ _).alloc (Nat.le_refl _) _⟩
 by_cases h21:n=21
 ·subst h21
  go_enter Tryz.func45,Tryz.ntmps45;go_wp2;go_ret;exact ⟨_,rfl,bK w 9 (forms 21) _ rfl,(Below.refl _ _).alloc (Nat.le_refl _) _⟩
 by_cases h52:n=52
 ·subst h52
  go_enter Tryz.func45,Tryz.ntmps45;go_wp2;go_ret;exact ⟨_,rfl,bK w 9 (forms 52) _ rfl,(Below.refl _ _).alloc (Nat.le_refl _) _⟩
 by_cases h30:n=30
 ·subst h30
  go_enter Tryz.func45,Tryz.ntmps45;go_wp2;go_ret;exact ⟨_,rfl,bK w 9 (forms 30) _ rfl,(Below.refl _ _).alloc (Nat.le_refl _) _⟩
 by_cases h32:n=32
 ·subst h32
  go_enter Tryz.func45,Tryz.ntmps45;go_wp2;go_ret;exact ⟨_,rfl,bK w 9 (forms 32) _ rfl,(Below.refl _ _).alloc (Nat.le_refl _) _⟩
 by_cases h31:n=31
 ·subst h31
  go_enter Tryz.func45,Tryz.ntmps45;go_wp2;go_ret;exact ⟨_,rfl,bK w 9 (forms 31) _ rfl,(Below.refl _ _).alloc (Nat.le_refl _) _⟩
 by_cases h33:n=33
 ·subst h33
  go_enter Tryz.func45,Tryz.ntmps45;go_wp2;go_ret;exact ⟨_,rfl,bK w 9 (forms 33) _ rfl,(Below.refl _ _).alloc (Nat.le_refl _) _⟩
 by_cases h34:n=34
 ·subst h34
  go_enter Tryz.func45,Tryz.ntmps45;go_wp2;go_ret;exact ⟨_,rfl,bK w 9 (forms 34) _ rfl,(Below.refl _ _).alloc (Nat.le_refl _) _⟩
 by_cases h50:n=50
 ·subst h50
  go_enter Tryz.func45,Tryz.ntmps45;go_wp2;go_ret;exact ⟨_,rfl,bK w 9 (forms 50) _ rfl,(Below.refl _ _).alloc (Nat.le_refl _) _⟩
 by_cases h51:n=51
 ·subst h51
  go_enter Tryz.func45,Tryz.ntmps45;go_wp2;go_ret;exact ⟨_,rfl,bK w 9 (forms 51) _ rfl,(Below.refl _ _).alloc (Nat.le_refl _) _⟩
 by_cases h53:n=53
 ·subst h53
  go_enter Tryz.func45,Tryz.ntmps45;go_wp2;go_ret;exact ⟨_,rfl,bK w 9 (forms 53) _ rfl,(Below.refl _ _).alloc (Nat.le_refl _) _⟩
 by_cases h60:n=60
 ·subst h60
  go_enter Tryz.func45,Tryz.ntmps45;go_wp2;go_ret;exact ⟨_,rfl,bK w 9 (forms 60) _ rfl,(Below.refl _ _).alloc (Nat.le_refl _) _⟩
 go_enter Tryz.func45,Tryz.ntmps45;go_wp2;go_ret;refine ⟨_,rfl,?_,Below.refl _ _⟩;rw [forms];simp only [*,if_false];exact ⟨none,0,rfl,Sl.nil_⟩
def fit (n m:Int):ByteArray × Bool:=match (forms n).find? (fun s=>(s.size:Int) == m) with | some s=>(s,true) | none=>(⟨#[]⟩,false)
theorem QD (n m:Int) (w:World) :
  Calls Tryz.prog 117 #[.int .i64 n,.int .i64 m] w fun e w'=>e=.returned (.tuple #[.string (fit n m).1,.bool (fit n m).2])∧Below w.heap.size w w':=by
 have hl:=lU n;go_enter Tryz.func117,Tryz.ntmps117;go_wp2_with (go_at_call 45;refine (qf _ _).mono ?_;rintro e w1 ⟨v,rfl,⟨A,c,rfl,hr⟩,hb⟩)
 go_loop [11] (fun i=>∃k:Nat,k≤(forms n).length∧i=.int .i64 k∧∀j s,j<k→(forms n)[j]?=some s→(s.size:Int)≠m) (fun i=>(forms n).length - (intOf i).toNat)
 case atStart=>exact ⟨0,Nat.zero_le _,rfl,by simp⟩
 case round =>
  obtain ⟨k,hk,rfl,hno⟩:=hrel
  by_cases hlt:k<(forms n).length
  ·obtain ⟨ad,hA,_,hc⟩:=hr.str hlt
   generalize hs:(forms n)[k]=s at hc;have hs':(forms n)[k]?=some s:=by rw [List.getElem?_eq_getElem hlt,hs]
   by_cases hm:(s.size:Int)=m
   ·have hf:fit n m=(s,true):=by
     have:(forms n).find? (fun s=>(s.size:Int) == m)=some s:=by
      rw [List.find?_eq_some_iff_getElem];exact ⟨by simpa using hm,k,hlt,hs,fun j hj=>by simpa using hno j _ hj (List.getElem?_eq_getElem (by omega))⟩
     simp [fit,this]
    have Hf:=hide hf;clear hf hs hs' hno;go_wp2;go_ret2;exact ⟨by rw [Hf.out];rfl,hb⟩
   ·have hno':∀j s,j<k+1→(forms n)[j]?=some s→(s.size:Int)≠m:=by
     intro j s' hj hs2
     by_cases hjk:j=k
     ·subst hjk
      rw [hs'] at hs2;cases hs2
      exact hm
     ·exact hno j s' (by omega) hs2
    have Hno:=hide hno';clear hs hs' hno hno';go_wp2;go_round
    case rel=>exact ⟨k+1,hlt,by go_num,Hno.out⟩
    case measure=>simp [intOf];omega
  ·have hf:fit n m=(⟨#[]⟩,false):=by
    have:(forms n).find? (fun s=>(s.size:Int) == m)=none:=by
     rw [List.find?_eq_none];intro s hs;obtain ⟨j,hj,rfl⟩:=List.getElem_of_mem hs;simpa using hno j _ (by omega) (List.getElem?_eq_getElem hj)
    simp [fit,this]
   have Hf:=hide hf;clear hf hno;go_wp2;go_ret2;exact ⟨by rw [Hf.out];rfl,hb⟩
theorem AL (n:Int):((forms n).map ByteArray.size).Nodup:=by
 unfold forms
 repeat' refine pV (P:=fun l:List ByteArray=>(l.map ByteArray.size).Nodup) ?_ ?_
 all_goals decide
theorem Ny (n:Int) {i j:Nat} (hij:i<j) (hj:j<(forms n).length):((forms n)[i].size:Int)≠(forms n)[j].size:=by
 have h:=List.pairwise_iff_getElem.1 (AL n) i j (by simp;omega) (by simpa using hj) hij;simp only [List.getElem_map] at h;omega
theorem QA (n:Int) {i:Nat} (hi:i<(forms n).length):fit n ((forms n)[i].size:Int)=((forms n)[i],true):=by
 have:(forms n).find? (fun s=>(s.size:Int) == ((forms n)[i].size:Int))=some (forms n)[i]:=by
  rw [List.find?_eq_some_iff_getElem];exact ⟨by simp,i,hi,rfl,fun j hj=>by simpa using Ny n hj hi⟩
 simp [fit,this]
end Go.Proofs.YtnhekaepgpbijaaGreatDoor

namespace Go.Proofs.YtnhekaepgpbijaaGreatDoor
inductive RdR where
 | ok (l:List Fld)
 | no (e:Nat) (i:Nat)
 | tail
def RdR.cons (x:Fld):RdR→RdR
 | .ok l=>.ok (x :: l)
 | .no e j=>.no e j
 | .tail=>.tail
def bu:List UInt8→List UInt8→Nat→RdR
 | [],r,_=>if r=[] then .ok [] else .tail
 | c :: f,r,i=>match dR c.toNat r with
  | .no e=>.no e i
  | .ok x r'=>(bu f r' (i+1)).cons x
theorem j5 {c:UInt8} {f r r':List UInt8} {i:Nat} {x:Fld} (h:dR c.toNat r=.ok x r'):bu (c :: f) r i=(bu f r' (i+1)).cons x:=by
 simp only [bu];rw [h]
theorem xB {c:UInt8} {f r:List UInt8} {i e:Nat} (h:dR c.toNat r=.no e):bu (c :: f) r i=.no e i:=by
 simp only [bu];rw [h]
def dE (l:List Fld):List UInt8:=(l.map fun x=>(aG x).2).flatten
theorem dN (x:Fld) (l:List Fld):dE (x :: l)=(aG x).2++dE l:=by simp [dE]
def okF (x:Fld):Prop:=bz x=true∧(aG x).1=0
theorem Gg {x:Fld} (h:okF x):aG x=(0,(aG x).2):=by
 have:=h.2;generalize aG x=p at this ⊢;obtain ⟨a,b⟩:=p;simp only at this;rw [this]
theorem iA {l:List Fld} {f:List UInt8} (hk:l.map (·.k)=f.map (·.toNat)) (h:∀x∈l,okF x∧Dx x) (i:Nat):bu f (dE l) i=.ok l:=by
 induction f generalizing l i with
 | nil =>
  have:l=[]:=by simpa using hk
  subst this;rfl
 | cons c f ih =>
  cases l with
  | nil=>simp at hk
  | cons x l =>
   simp only [List.map_cons,List.cons.injEq] at hk;have hx:=h x (by simp);rw [dN];have hg:=get_put hx.2 hx.1.1 (Gg hx.1) (dE l);rw [hk.1] at hg;rw [j5 hg,ih hk.2 (fun y hy=>h y (by simp [hy]))];rfl
theorem Ep {f r:List UInt8} {i:Nat} {l:List Fld} (h:bu f r i=.ok l):l.map (·.k)=f.map (·.toNat)∧(∀x∈l,okF x)∧r=dE l:=by
 induction f generalizing l r i with
 | nil =>
  simp only [bu] at h
  split at h
  ·rename_i hr
   injection h with h;subst h hr;exact ⟨rfl,by simp,rfl⟩
  ·cases h
 | cons c f ih =>
  simp only [bu] at h
  cases hg:dR c.toNat r with
  | no e=>rw [hg] at h;cases h
  | ok x r' =>
   rw [hg] at h;simp only at h
   cases h2:bu f r' (i+1) with
   | no e j=>rw [h2] at h;cases h
   | tail=>rw [h2] at h;cases h
   | ok l2 =>
    rw [h2] at h;simp only [RdR.cons] at h;injection h with h;subst h;obtain ⟨e1,e2,b,e3,e4⟩:=FW hg;obtain ⟨e5,e6,e7⟩:=ih h2;refine ⟨by simp [e1,e5],?_,by rw [dN,e3,e4,e7]⟩;intro y hy;rcases List.mem_cons.1 hy with rfl | hy
    ·exact ⟨e2,by rw [e3]⟩
    ·exact e6 y hy
inductive RS where
 | ok (s:List UInt8)
 | none
 | long
 | bad (e:Nat) (i:Nat)
def gV:List UInt8→List Fld→Nat→List UInt8→RS
 | c :: f,x :: l,i,out =>
  if x.k=c.toNat∧bz x=true then (if (aG x).1=0 then (if 32768<(out++(aG x).2).length then .long else gV f l (i+1) (out++(aG x).2)) else .bad (aG x).1 i) else .bad 3 i
 | _,_,_,out=>.ok out
def encS (num:Int) (l:List Fld):RS :=
 if (fit num l.length).2=true then gV (fit num l.length).1.data.toList l 0 [UInt8.ofNat num.toNat] else .none
theorem uE {f:List UInt8} {l:List Fld} {i:Nat} {out:List UInt8} (hk:l.map (·.k)=f.map (·.toNat)) (h:∀x∈l,okF x) (hl:(out++dE l).length≤32768):gV f l i out=.ok (out++dE l):=by
 induction f generalizing l i out with
 | nil =>
  have:l=[]:=by simpa using hk
  subst this;simp [gV,dE]
 | cons c f ih =>
  cases l with
  | nil=>simp at hk
  | cons x l =>
   simp only [List.map_cons,List.cons.injEq] at hk;have hx:=h x (by simp);rw [dN,← List.append_assoc] at hl;simp only [gV];rw [if_pos ⟨hk.1,hx.1⟩,if_pos hx.2,if_neg (by rw [List.length_append] at hl;omega),ih hk.2 (fun y hy=>h y (by simp [hy])) hl,dN,List.append_assoc]
theorem qH {f:List UInt8} {l:List Fld} {i:Nat} {out s:List UInt8} (hl:l.length=f.length) (h:gV f l i out=.ok s):l.map (·.k)=f.map (·.toNat)∧(∀x∈l,okF x)∧s=out++dE l∧(s.length≤32768∨s=out):=by
 induction f generalizing l i out with
 | nil =>
  have:l=[]:=by simpa using hl
  subst this;simp only [gV] at h;injection h with h;subst h;exact ⟨rfl,by simp,by simp [dE],.inr rfl⟩
 | cons c f ih =>
  cases l with
  | nil=>simp at hl
  | cons x l =>
   simp only [gV] at h
   split at h
   ·rename_i h1
    split at h
    ·rename_i h2
     split at h
     ·cases h
     ·rename_i h3
      obtain ⟨e1,e2,e3,e4⟩:=ih (by simpa using hl) h;refine ⟨by simp [h1.1,e1],?_,by rw [dN,e3,List.append_assoc],?_⟩
      ·intro y hy
       rcases List.mem_cons.1 hy with rfl | hy
       ·exact ⟨h1.2,h2⟩
       ·exact e2 y hy
      ·rcases e4 with e4 | e4
       ·exact .inl e4
       ·exact .inl (by rw [e4];omega)
    ·cases h
   ·cases h
inductive Sd where
 | ok (num:Nat) (l:List Fld)
 | all (e:Nat)
 | bad (num:Nat) (e:RdR)
def dO:List ByteArray→List UInt8→Option (List Fld)
 | [],_=>none
 | f :: fs,r=>match bu f.data.toList r 0 with
  | .ok l=>some l
  | _=>dO fs r
theorem gB {f:ByteArray} {fs:List ByteArray} {r:List UInt8} {l:List Fld} (h:bu f.data.toList r 0=.ok l):dO (f :: fs) r=some l:=by
 simp only [dO];rw [h]
theorem gX {f:ByteArray} {fs:List ByteArray} {r:List UInt8} (h:∀l,bu f.data.toList r 0≠.ok l):dO (f :: fs) r=dO fs r:=by
 cases hr:bu f.data.toList r 0 with
 | ok l=>exact absurd hr (h l)
 | no e j =>
  simp only [dO,hr]
 | tail =>
  simp only [dO,hr]
theorem Eb {fs:List ByteArray} {r:List UInt8} {l:List Fld} (h:dO fs r=some l):∃f∈fs,bu f.data.toList r 0=.ok l:=by
 induction fs with
 | nil=>cases h
 | cons f fs ih =>
  cases hr:bu f.data.toList r 0 with
  | ok l2 =>
   rw [gB hr] at h;injection h with h;subst h;exact ⟨f,by simp,hr⟩
  | no e j =>
   rw [gX (by intro l2 e2;rw [hr] at e2;cases e2)] at h;obtain ⟨f2,h2,h3⟩:=ih h;exact ⟨f2,by simp [h2],h3⟩
  | tail =>
   rw [gX (by intro l2 e2;rw [hr] at e2;cases e2)] at h;obtain ⟨f2,h2,h3⟩:=ih h;exact ⟨f2,by simp [h2],h3⟩
def fq (p:List UInt8):Sd:=match p with
 | []=>.all 4
 | c :: r=>if 32768<(c :: r).length then .all 2 else match forms c.toNat with
  | []=>.all 6
  | f :: fs=>match dO (f :: fs) r with
   | some l=>.ok c.toNat l
   | none=>.bad c.toNat (bu f.data.toList r 0)
theorem yK {c:UInt8} {r:List UInt8} {l:List Fld} (hl:(c :: r).length≤32768) (h:dO (forms c.toNat) r=some l):fq (c :: r)=.ok c.toNat l:=by
 simp only [fq];rw [if_neg (by omega)]
 split
 ·rename_i hf
  rw [hf] at h;cases h
 ·rename_i f fs hf
  rw [hf] at h;rw [h]
theorem KD {p:List UInt8} {num:Nat} {l:List Fld} (h:fq p=.ok num l):∃c r,p=c :: r∧num=c.toNat∧p.length≤32768∧dO (forms num) r=some l:=by
 cases p with
 | nil=>cases h
 | cons c r =>
  simp only [fq] at h
  split at h
  ·cases h
  ·rename_i hl
   split at h
   ·cases h
   ·rename_i f fs hf
    split at h
    ·rename_i l2 hl2
     injection h with h1 h2;subst h1 h2;exact ⟨c,r,rfl,rfl,by omega,by rw [hf,hl2]⟩
    ·cases h
theorem De (n:Int):(forms n).length≤1∨n=31∨n=50:=by
 by_cases h1:n=31
 ·exact .inr (.inl h1)
 ·by_cases h2:n=50
  ·exact .inr (.inr h2)
  ·left
   unfold forms;rw [if_neg h1,if_neg h2]
   repeat' refine pV (P:=fun l:List ByteArray=>l.length≤1) ?_ ?_
   all_goals decide
theorem Mo:forms 31=[⟨#[116,116,116]⟩,⟨#[109,109]⟩]:=by decide +kernel
theorem KA:forms 50=[⟨#[115,115,115]⟩,⟨#[115,115,115,98,115,116]⟩,⟨#[115,115,115,98,115,116,116]⟩]:=by decide +kernel
theorem wW {k:Nat} (hk:k=115∨k=116) {s:List UInt8} (h:s.length<4294967296) (r:List UInt8):dR k (bC s++r)=.ok ⟨k,0,s,[]⟩ r:=by
 rw [qo _ (by omega) (by omega) (by omega) (by omega) (by omega) (by omega),kD h,Res.map_ok]
theorem Nb {k:Nat} (hk:k=115∨k=116∨k=98):dR k []=.no 4:=by
 rcases hk with rfl | rfl | rfl <;> rfl
theorem Di {l:List Fld} {f:List UInt8} (hk:l.map (·.k)=f.map (·.toNat)) (h:∀x∈l,okF x∧Dx x) {r:List UInt8} (hr:r≠[]) (i:Nat):bu f (dE l++r) i=.tail:=by
 induction f generalizing l i with
 | nil =>
  have:l=[]:=by simpa using hk
  subst this;simp only [bu,dE,List.map_nil,List.flatten_nil,List.nil_append];rw [if_neg hr]
 | cons c f ih =>
  cases l with
  | nil=>simp at hk
  | cons x l =>
   simp only [List.map_cons,List.cons.injEq] at hk;have hx:=h x (by simp);have hg:=get_put hx.2 hx.1.1 (Gg hx.1) (dE l++r);rw [hk.1] at hg;rw [dN,List.append_assoc,j5 hg,ih hk.2 (fun y hy=>h y (by simp [hy]))];rfl
theorem RJ {x:Fld} (h:okF x):(aG x).2≠[]:=by
 obtain ⟨h1,h2⟩:=h;unfold aG at h2 ⊢
 repeat' split at h2
 all_goals first | (simp only at h2;omega) | skip
 all_goals simp only [*,if_true,if_false,ne_eq,not_false_eq_true]
 all_goals first
  | (simp;done)
  | (simp [q4];done)
  | (simp [fO,q4];done)
  | (simp [bC,q4];done)
  | (simp [kY,q4];done)
  | (intro e;simp_all;done)
  | (simp_all;done)
theorem IA (l m:List Fld):dE (l++m)=dE l++dE m:=by simp [dE]
theorem GI {n:Int} {l:List Fld} {f:ByteArray} (hf:f∈forms n) (hk:l.map (·.k)=f.data.toList.map (·.toNat)) (h:∀x∈l,okF x∧Dx x):dO (forms n) (dE l)=some l:=by
 rcases De n with h1 | rfl | rfl
 ·generalize forms n=fs at hf h1
  match fs,hf,h1 with
  | [g],hf,_ =>
   simp only [List.mem_singleton] at hf;subst hf;exact gB (iA hk h 0)
  | [],hf,_=>simp at hf
 ·rw [Mo] at hf ⊢
  simp only [List.mem_cons,List.not_mem_nil,or_false] at hf;rcases hf with rfl | rfl
  ·exact gB (iA hk h 0)
  ·rw [gX]
   ·exact gB (iA hk h 0)
   ·match l,hk,h with
    | [x,y],hk,h =>
     simp only [List.map_cons,List.map_nil,List.cons.injEq,and_true] at hk;have hx:=h x (by simp);have hy:=h y (by simp);obtain ⟨kx,ky⟩:=hk
     have wx:(aG x).2=bC (dP x.s)∧(dP x.s).length<4294967296:=by
      have h2:=hx.1.2;have h3:=hx.2.1;have h4:=mr x.s;unfold aG at h2 ⊢;rw [if_neg (by rw [kx];decide),if_neg (by rw [kx];decide),if_pos (by rw [kx];rfl)] at h2 ⊢
      split at h2
      ·simp at h2
      ·rename_i ha
       rw [if_neg ha];exact ⟨jC (by simpa using ha),by omega⟩
     have wy:(aG y).2=bC (dP y.s)∧(dP y.s).length<4294967296:=by
      have h2:=hy.1.2;have h3:=hy.2.1;have h4:=mr y.s;unfold aG at h2 ⊢;rw [if_neg (by rw [ky];decide),if_neg (by rw [ky];decide),if_pos (by rw [ky];rfl)] at h2 ⊢
      split at h2
      ·simp at h2
      ·rename_i ha
       rw [if_neg ha];exact ⟨jC (by simpa using ha),by omega⟩
     intro l2 hl2;rw [dN,dN,wx.1,wy.1,show dE []=[] from rfl] at hl2;have g1:dR (116:UInt8).toNat (bC (dP x.s)++(bC (dP y.s)++[]))=_:=wW (.inr rfl) wx.2 _;have g2:dR (116:UInt8).toNat (bC (dP y.s)++[])=_:=wW (.inr rfl) wy.2 _;have g3:dR (116:UInt8).toNat []=_:=Nb (.inr (.inl rfl))
     have hh:bu [116,116,116] (bC (dP x.s)++(bC (dP y.s)++[])) 0=.no 4 2:=by
      rw [j5 g1,j5 g2,xB g3];rfl
     rw [show (⟨#[116,116,116]⟩:ByteArray).data.toList=[116,116,116] from rfl,hh] at hl2;cases hl2
    | [],hk,_=>simp at hk
    | [_],hk,_=>simp at hk
    | _ :: _ :: _ :: _,hk,_=>simp at hk
 ·rw [KA] at hf ⊢
  have cut:∀(g:List UInt8) (m:Nat),l.map (·.k)=(g++(f.data.toList.drop m)).map (·.toNat)→g.length=m→g.length<l.length→∀l2,bu g (dE l) 0≠.ok l2:=by
   intro g m hg hgm hlt l2 hl2;have hsp:l=l.take m++l.drop m:=(List.take_append_drop m l).symm
   have hk1:(l.take m).map (·.k)=g.map (·.toNat):=by
    rw [List.map_take,hg,List.map_append,List.take_append_of_le_length (by simp [hgm]),List.take_of_length_le (by simp [hgm])]
   have hne:dE (l.drop m)≠[]:=by
    have hd:l.drop m≠[]:=by
     intro e;have:=congrArg List.length e;simp at this;omega
    obtain ⟨y,q,hq⟩:=List.exists_cons_of_ne_nil hd;have hy:y∈l:=List.mem_of_mem_drop (by rw [hq];simp);rw [hq,dN];intro e;exact RJ (h y hy).1 (List.append_eq_nil_iff.1 e).1
   rw [hsp,IA] at hl2;rw [Di hk1 (fun x hx=>h x (List.mem_of_mem_take hx)) hne 0] at hl2;cases hl2
  simp only [List.mem_cons,List.not_mem_nil,or_false] at hf;have hlen:=congrArg List.length hk;simp only [List.length_map] at hlen;rcases hf with rfl | rfl | rfl
  ·exact gB (iA hk h 0)
  ·rw [gX (cut [115,115,115] 3 hk rfl (by rw [hlen];decide))]
   exact gB (iA hk h 0)
  ·rw [gX (cut [115,115,115] 3 hk rfl (by rw [hlen];decide)),gX (cut [115,115,115,98,115,116] 6 hk rfl (by rw [hlen];decide))]
   exact gB (iA hk h 0)
theorem oN {n:Int} {m:Nat} (h:(fit n m).2=true):(fit n m).1∈forms n∧(fit n m).1.size=m:=by
 unfold fit at h ⊢
 split at h
 ·rename_i s hs
  have h1:=List.mem_of_find?_eq_some hs;have h2:=List.find?_some hs;simp only [beq_iff_eq] at h2;exact ⟨h1,show s.size=m by omega⟩
 ·cases h
theorem qJ {n:Int} (h:forms n≠[]):1≤n∧n≤60:=by
 by_cases hn:1≤n∧n≤60
 ·exact hn
 ·exfalso
  apply h;unfold forms
  repeat rw [if_neg (by omega)]
theorem FV {n:Int} {l:List Fld} {s:List UInt8} (hl:∀x∈l,Dx x) (h:encS n l=.ok s):fq s=.ok n.toNat l∧1≤n∧n≤60∧1≤s.length∧s.length≤32768:=by
 unfold encS at h
 split at h
 ·rename_i hf
  obtain ⟨h1,h2⟩:=oN hf;have hn:=qJ (n:=n) (by intro e;rw [e] at h1;simp at h1);obtain ⟨e1,e2,e3,e4⟩:=qH (h2.symm.trans (show (fit n l.length).1.size=(fit n l.length).1.data.toList.length from rfl)) h
  have hc:((UInt8.ofNat n.toNat).toNat:Nat)=n.toNat:=by
   rw [UInt8.toNat_ofNat'];omega
  have hs:s.length≤32768:=by
   rcases e4 with e4 | e4
   ·exact e4
   ·rw [e4];simp
  have hp:=GI h1 e1 (fun x hx=>⟨e2 x hx,hl x hx⟩);subst e3;refine ⟨?_,hn.1,hn.2,by simp,hs⟩;rw [List.singleton_append] at hs ⊢;have:=yK (c:=UInt8.ofNat n.toNat) (r:=dE l) hs (by rw [hc,show ((n.toNat:Nat):Int)=n from by omega];exact hp);rw [this,hc]
 ·cases h
theorem Gi {p:List UInt8} {n:Nat} {l:List Fld} (h:fq p=.ok n l):encS n l=.ok p∧p.length≤32768:=by
 obtain ⟨c,r,rfl,rfl,h3,h4⟩:=KD h;obtain ⟨f,hf,hr⟩:=Eb h4;obtain ⟨e1,e2,e3⟩:=Ep hr;have hlen:=congrArg List.length e1;simp only [List.length_map] at hlen;obtain ⟨i,hi,hfi⟩:=List.getElem_of_mem hf;have hfit:=QA (c.toNat:Int) hi;rw [hfi] at hfit;have hsz:(l.length:Int)=(f.size:Int):=by rw [hlen];rfl
 refine ⟨?_,h3⟩;unfold encS;rw [hsz,hfit,if_pos rfl,uE e1 e2]
 ·rw [e3]
  simp
 ·rw [←e3]
  simpa using h3
end Go.Proofs.YtnhekaepgpbijaaGreatDoor

namespace Go.Proofs.YtnhekaepgpbijaaGreatDoor
open Go.ChangeShapes Go.WideShapes Go.ChangeAt Go.RowKit
open Go.ChangeMaps (open_string shut_string)
theorem own:ownKnob Tryz.prog.godebug=none:=by kernel_rfl
theorem laidOut:laidOutB Tryz.prog=true:=by kernel_rfl

section
variable {H : Type} {enc : TypeId × Value → H} {P : Program}
theorem vS {W W':World} (hl:laidOutB P=true) (hb:Below W.heap.size W W'):∀(ts:List TypeId) (vs:List Value) (ds:List (DataW H)) (ps:List MemPlace),
  ts.all (fun t=>P.readableRec t && decide (t<P.types.size))=true→DataW.TrodAll enc P W 0 (fun _=>true) true ts vs ds ps →
  DataW.TrodAll enc P W' 0 (fun b=>decide (b<W.heap.size)) true ts vs ds ps:=by
 intro ts
 induction ts with
 | nil =>
  intro vs ds ps _ h;obtain ⟨rfl,rfl,rfl⟩:=trodAll_nil h;exact trodAll_mk0
 | cons t ts ih =>
  intro vs ds ps hr h;obtain ⟨v,vs',d,ds',p,q,rfl,rfl,rfl,h0,h1⟩:=trodAll_cons h;simp only [List.all_cons,Bool.and_eq_true,decide_eq_true_eq] at hr
  have hlt:∀x∈p,x.block<W.heap.size:=by
   obtain ⟨m,hm⟩:=h0;exact DataW.trod_lt m _ _ _ hm
  exact trodAll_cons_mk (Below.trod hl hr.1.1 hr.1.2 h0 hb hlt) (ih _ _ _ hr.2 h1)

theorem M7 {f:Func} {s:ChangeSpec} {W W':World} {args:Array Value} {ds gs:List (DataW H)} {before:List MemPlace} (tb:TypeId) (hl:laidOutB P=true)
  (hr:f.params.toList.all (fun t=>P.readableRec t && decide (t<P.types.size))=true) (hres:f.resultTypes=#[tb]) (htb:P.underlying tb=some .bool) (hv:s.vars=[])
  (hW:DataW.Whole enc P f.params.toList s.vars false W args.toList ds gs before)
  (hs:∀ds':List (DataW H),ds'.length=ds.length→ds'=ds→s.fn H ds'={ results:=[.lit (.bool true)],args:=ds' })
  (bel:Below W.heap.size W W'):s.post enc P f false true false false W args (.bool true) W':=by
 have hW':=hW;obtain ⟨p,q,hA,hV,rfl,hfz,hnd⟩:=hW
 have hgs:gs=[]∧q=[]:=by
  rw [hv] at hV;exact trodVars_none hV
 obtain ⟨rfl,rfl⟩:=hgs;have e:=hs ds rfl rfl;refine ⟨ds,[],_,[],p,[],hW',?_,?_,?_,bel.frame _,fun h=>by cases h⟩
 ·rw [List.append_nil,e,hres]
  exact trodAll_mk1 (shut_bool htb _)
 ·rw [List.append_nil,e]
  exact vS hl bel _ _ _ _ hr hA
 ·rw [List.append_nil,e,hv]
  rfl

end
end Go.Proofs.YtnhekaepgpbijaaGreatDoor

namespace Go.Proofs.YtnhekaepgpbijaaGreatDoor
open Go.ChangeShapes Go.WideShapes Go.ChangeAt Go.RowKit
inductive Shp where
 | b
 | i (k:IntKind)
 | s
 | sl (l:List Shp)

mutual
def Shp.ok (w:World):Shp→Value→Prop
 | .b,v=>∃x,v=.bool x
 | .i k,v=>∃n,v=.int k n∧(Lit.int k n).wf=true
 | .s,v=>∃s:ByteArray,v=.string s∧s.size≤maxLen
 | .sl l,v=>∃A n c,v=.slice A n c∧n≤c∧c≤maxLen∧∀j,j<n→∃ad us,A=some ad∧(∀i u,us[i]?=some u→w.cell? (ad.add (j*l.length+i))=some u)∧Shp.oks w l us
def Shp.oks (w:World):List Shp→List Value→Prop
 | [],[]=>True
 | a :: l,v :: vs=>Shp.ok w a v∧Shp.oks w l vs
 | _,_=>False
end
def Shp.zero:Shp→Value
 | .b=>.bool false
 | .i k=>.int k 0
 | .s=>.string ByteArray.empty
 | .sl _=>.slice none 0 0
theorem Fy {w:World}:∀{l:List Shp} {us:List Value},Shp.oks w l us→us.length=l.length
 | [],[],_=>rfl
 | [],_ :: _,h=>by simp [Shp.oks] at h
 | _ :: _,[],h=>by simp [Shp.oks] at h
 | _ :: l,_ :: us,h=>by
  simp only [Shp.oks] at h;simp [Fy h.2]
theorem nC {w:World}:∀{l m:List Shp} {us vs:List Value},Shp.oks w l us→Shp.oks w m vs→Shp.oks w (l++m) (us++vs)
 | [],_,[],_,_,h=>h
 | [],_,_ :: _,_,h,_=>by simp [Shp.oks] at h
 | _ :: _,_,[],_,h,_=>by simp [Shp.oks] at h
 | _ :: l,m,_ :: us,vs,h,h'=>by
  simp only [Shp.oks,List.cons_append] at h ⊢;exact ⟨h.1,nC h.2 h'⟩

def LH:List (Nat × List Shp)→Nat→Option (List Shp)
 | [],_=>some []
 | (o,l) :: r,p=>if o=p then (LH r (p+l.length)).map (l++·) else none
def shapes (P:Program):Nat→TypeId→Option (List Shp)
 | 0,_=>none
 | n+1,t =>
  match P.underlying t with
  | some .bool=>some [.b]
  | some (.int k)=>some [.i k]
  | some .string=>some [.s]
  | some (.slice e)=>(shapes P n e).bind fun l=>if l.length=P.cellsOf e then some [.sl l] else none
  | some (.struct fs)=>(fs.toList.mapM fun f=>(shapes P n f.type).bind fun l=>if l.length=P.cellsOf f.type then some (f.offset,l) else none).bind fun ls=>(LH ls 0).bind fun l=>if l.length=P.cellsOf t then some l else none
  | some (.array m e)=>(shapes P n e).bind fun l=>if l.length=P.cellsOf e∧m*l.length=P.cellsOf t then some (List.replicate m l).flatten else none
  | _=>none

theorem Ng {w:World} {cs:List Value}:∀(ls:List (Nat × List Shp)) (p:Nat) (l:List Shp),LH ls p=some l→(∀q∈ls,Shp.oks w q.2 ((cs.drop q.1).take q.2.length))→p+l.length=cs.length→Shp.oks w l (cs.drop p):=by
 intro ls
 induction ls with
 | nil =>
  intro p l h _ hl;simp only [LH,Option.some.injEq] at h;subst h;rw [List.drop_eq_nil_of_le (by simp at hl;omega)];simp [Shp.oks]
 | cons q r ih =>
  obtain ⟨o,l0⟩:=q;intro p l h hq hl;simp only [LH] at h
  split at h
  ·rename_i ho
   subst ho;simp only [Option.map_eq_some_iff] at h;obtain ⟨l1,h1,rfl⟩:=h;have h0:=hq (o,l0) (by simp);have h2:=ih _ _ h1 (fun q hm=>hq q (by simp [hm])) (by simp at hl;omega);have:=nC h0 h2;rwa [show (cs.drop o).take l0.length++cs.drop (o+l0.length)=cs.drop o by rw [←List.drop_drop];exact List.take_append_drop _ _] at this
  ·cases h
theorem OO {w:World} {l:List Shp}:∀(m:Nat) (cs:List Value),cs.length=m*l.length→(∀i,i<m→Shp.oks w l ((cs.drop (i*l.length)).take l.length))→Shp.oks w (List.replicate m l).flatten cs:=by
 intro m
 induction m with
 | zero =>
  intro cs hl _;obtain rfl:=List.eq_nil_of_length_eq_zero (by simpa using hl);simp [Shp.oks]
 | succ m ih =>
  intro cs hl h;rw [List.replicate_succ,List.flatten_cons];have h0:=h 0 (by omega);rw [Nat.zero_mul,List.drop_zero] at h0
  have h1:=ih (cs.drop l.length) (by rw [List.length_drop,hl,Nat.succ_mul];omega) (fun i hi=>by
   have:=h (i+1) (by omega)
   rwa [List.drop_drop,show l.length+i*l.length=(i+1)*l.length by rw [Nat.succ_mul];omega])
  have:=nC h0 h1;rwa [List.take_append_drop] at this
theorem mapM_mem {α β:Type} {f:α→Option β}:∀{l:List α} {r:List β},l.mapM f=some r→∀y∈r,∃x,x∈l∧f x=some y:=by
 intro l
 induction l with
 | nil=>intro r h;simp at h;subst h;simp
 | cons x xs ih =>
  intro r h y hy;rw [List.mapM_cons] at h
  cases hx:f x with
  | none=>simp [hx] at h
  | some z =>
   cases hxs:xs.mapM f with
   | none=>simp [hx,hxs] at h
   | some ys =>
    simp [hx,hxs] at h;subst h;rcases List.mem_cons.1 hy with rfl | hy
    ·exact ⟨x,by simp,hx⟩
    ·obtain ⟨x',h1,h2⟩:=ih hxs y hy
     exact ⟨x',by simp [h1],h2⟩
theorem EK {w:World} {base:Nat} {a:Addr} {n:Nat} {us:List Value} (h:w.cells? base a n=some us):us.length=n∧∀i u,us[i]?=some u→w.cell? (a.add i)=some u:=by
 unfold World.cells? at h
 split at h
 ·have hl:us.length=n:=by simpa using mapM_some_length h
  refine ⟨hl,fun i u hu=>?_⟩
  have hi:i<n:=by
   rcases Nat.lt_or_ge i us.length with hlt | hge
   ·omega
   ·rw [List.getElem?_eq_none hge] at hu;cases hu
  have:=mapM_some_get h i i (by simp [hi]);rw [this,hu]
 ·cases h

section
variable {H : Type} {enc : TypeId × Value → H} {P : Program} {w : World} {base : Nat} {spare : Nat → Bool} {held : Bool}
theorem sN:∀(n:Nat) (t:TypeId) (l:List Shp),shapes P n t=some l→∀(fuel:Nat) (cs:List Value) (x:DataW H × List MemPlace),DataW.trod enc P w base spare held fuel t cs=some x→Shp.oks w l cs:=by
 intro n
 induction n with
 | zero=>intro t l h;simp [shapes] at h
 | succ n ih =>
  intro t l h fuel cs x hx;unfold shapes at h
  split at h
  ·rename_i hu
   simp only [Option.some.injEq] at h;subst h;obtain ⟨b,rfl,_⟩:=DataW.trod_bool hu hx;simp [Shp.oks,Shp.ok]
  ·rename_i k hu
   simp only [Option.some.injEq] at h;subst h;obtain ⟨b,rfl,_,hw⟩:=DataW.trod_int hu hx;simp only [Shp.oks,Shp.ok];exact ⟨⟨_,rfl,hw⟩,trivial⟩
  ·rename_i hu
   simp only [Option.some.injEq] at h;subst h;obtain ⟨b,rfl,_,hw⟩:=DataW.trod_string hu hx;simp only [Shp.oks,Shp.ok];exact ⟨⟨_,rfl,hw⟩,trivial⟩
  ·rename_i e hu
   simp only [Option.bind_eq_some_iff] at h;obtain ⟨le,hle,h⟩:=h
   split at h
   ·rename_i hlen
    simp only [Option.some.injEq] at h;subst h;rcases DataW.trod_slice hu hx with ⟨rfl,_⟩ | ⟨a,len,cap,elems,rest,m,_,rfl,_,_,hlc,hcm,hel,hi,_⟩
    ·simp only [Shp.oks,Shp.ok]
     exact ⟨⟨none,0,0,rfl,Nat.le_refl _,Nat.zero_le _,fun j hj=>absurd hj (Nat.not_lt_zero _)⟩,trivial⟩
    ·simp only [Shp.oks,Shp.ok]
     refine ⟨⟨some a,len,cap,rfl,hlc,hcm,fun j hj=>?_⟩,trivial⟩;have h1:=hi j hj;rw [List.getElem?_eq_getElem (by omega),Option.bind_eq_some_iff] at h1;obtain ⟨us,hus,h2⟩:=h1;obtain ⟨_,hc⟩:=EK hus;refine ⟨a,us,rfl,fun i u hu=>?_,ih _ _ hle _ _ _ h2⟩;rw [hlen,← nQ];exact hc i u hu
   ·cases h
  ·rename_i fs hu
   simp only [Option.bind_eq_some_iff] at h;obtain ⟨ls,hls,l',hcat,h⟩:=h
   split at h
   ·rename_i hlen
    simp only [Option.some.injEq] at h;subst h;obtain ⟨xs,m,_,_,hcl,hxl,hf⟩:=DataW.trod_struct hu hx;have:=Ng (w:=w) (cs:=cs) ls 0 l' hcat (fun q hq=>?_) (by omega)
    ·exact this
    ·obtain ⟨f,hfm,hfq⟩:=mapM_mem hls q hq
     simp only [Option.bind_eq_some_iff] at hfq;obtain ⟨lf,hlf,hfq⟩:=hfq
     split at hfq
     ·rename_i hlf2
      simp only [Option.some.injEq] at hfq;subst hfq;obtain ⟨i,hi,hfi⟩:=List.getElem_of_mem hfm;have h1:=hf i f (by rw [←hfi];simp);rw [List.getElem?_eq_getElem (by simp at hi;omega)] at h1;have h2:=ih _ _ hlf _ _ _ h1;rw [←hlf2] at h2;exact h2
     ·cases hfq
   ·cases h
  ·rename_i m e hu
   simp only [Option.bind_eq_some_iff] at h;obtain ⟨le,hle,h⟩:=h
   split at h
   ·rename_i hlen
    simp only [Option.some.injEq] at h;subst h;obtain ⟨xs,m',_,_,hcl,hxl,hf⟩:=Go.DataW.trod_array hu hx;refine OO m cs (by omega) fun i hi=>?_
    have h1:=hf i hi;rw [List.getElem?_eq_getElem (by omega),← hlen.1] at h1;exact ih _ _ hle _ _ _ h1
   ·cases h
  ·cases h
theorem BH {W:World} {r:Reach} {b0:Nat} {t:TypeId} {fs:Array Field} {v:Value} {d:DataW H} {ps:List MemPlace} (n:Nat) {l:List Shp} (ht:P.underlying t=some (.struct fs)) (hs:shapes P n t=some l)
  (hv:Value.okWide P W r b0 t v) (h:DataW.Trod enc P W base spare held t v d ps):∃cs:List Value,v=.agg cs.toArray∧Shp.oks W l cs:=by
 simp only [Value.okWide,ht] at hv;obtain ⟨cs,rfl,_⟩:=hv;obtain ⟨fuel,hf⟩:=h;obtain ⟨cs⟩:=cs;exact ⟨cs,rfl,sN n t l hs _ _ _ hf⟩
theorem open_slice {W:World} {r:Reach} {b0:Nat} {t e:TypeId} {v:Value} {d:DataW H} {ps:List MemPlace} (n:Nat) {l:List Shp} (ht:P.underlying t=some (.slice e)) (hs:shapes P n t=some [.sl l])
  (hv:Value.okWide P W r b0 t v) (h:DataW.Trod enc P W base spare held t v d ps):Shp.ok W (.sl l) v:=by
 obtain ⟨a0,l0,c0,rfl⟩:=okWide_slice ht hv;obtain ⟨fuel,hf⟩:=h;have h:=sN n t _ hs _ _ _ hf;simp only [Value.cells,Shp.oks] at h;exact h.1
end

theorem Ad {w:World} {a:Addr} {v:Value} (h:w.cell? a=some v):a.block<w.heap.size:=World.block_lt_of_cell? w _ h
section
variable {w : World}
theorem QG {α:Type} [Inhabited α] {l:List Shp} {v:Value} (R:α→List Value→Prop) (h:Shp.ok w (.sl l) v) (hR:∀us,Shp.oks w l us→∃a,R a us) :
  ∃A c,∃xs:List α,v=.slice A xs.length c∧xs.length≤c∧c≤maxLen∧∀j (hj:j<xs.length),∃ad us,A=some ad∧(∀i u,us[i]?=some u→w.cell? (ad.add (j*l.length+i))=some u)∧R xs[j] us:=by
 simp only [Shp.ok] at h;obtain ⟨A,n,c,rfl,hn,hc,h⟩:=h
 have hall:∀j,∃a:α,j<n→∃ad us,A=some ad∧(∀i u,us[i]?=some u→w.cell? (ad.add (j*l.length+i))=some u)∧R a us:=by
  intro j
  by_cases hj:j<n
  ·obtain ⟨ad,us,e,hc,ho⟩:=h j hj
   obtain ⟨a,ha⟩:=hR us ho;exact ⟨a,fun _=>⟨ad,us,e,hc,ha⟩⟩
  ·exact ⟨default,fun h=>absurd h hj⟩
 obtain ⟨f,hf⟩:=Classical.axiomOfChoice hall;have hl:((List.range n).map f).length=n:=by simp
 refine ⟨A,c,(List.range n).map f,by rw [hl],by omega,hc,fun j hj=>?_⟩;obtain ⟨ad,us,e,h1,h2⟩:=hf j (by omega);exact ⟨ad,us,e,h1,by simpa using h2⟩
instance:Inhabited {s:ByteArray // s.size≤maxLen}:=⟨⟨⟨#[]⟩,Nat.zero_le _⟩⟩
theorem Pn {v:Value} (h:Shp.ok w (.sl [.s]) v):∃ss:List ByteArray,Strs 0 w v ss∧ss.length≤maxLen∧∀s∈ss,s.size≤maxLen:=by
 obtain ⟨A,c,xs,rfl,h1,h2,h⟩:=QG (α:={s:ByteArray // s.size≤maxLen}) (fun a us=>us=[.string a.1]) h (fun us ho=>by
  match us,ho with
  | [u],ho =>
   simp only [Shp.oks,Shp.ok,and_true] at ho;obtain ⟨s,rfl,hs⟩:=ho;exact ⟨⟨s,hs⟩,rfl⟩
  | [],ho=>simp [Shp.oks] at ho
  | _ :: _ :: _,ho=>simp [Shp.oks] at ho)
 refine ⟨xs.map (·.1),⟨A,c,by simp,?_⟩,by simp;omega,fun s hs=>by obtain ⟨y,_,rfl⟩:=List.mem_map.1 hs;exact y.2⟩;refine ⟨by simp,fun hn=>?_⟩;simp only [List.length_map] at hn;obtain ⟨ad,us,e,hc,hu⟩:=h 0 hn;refine ⟨ad,e,Nat.zero_le _,?_,fun j u hj=>?_⟩
 ·subst hu
  have:=Ad (hc 0 _ rfl);rwa [ax] at this
 ·have hjl:j<xs.length:=by
   rcases Nat.lt_or_ge j xs.length with hlt | hge
   ·exact hlt
   ·rw [List.getElem?_eq_none (by simpa using hge)] at hj;cases hj
  obtain ⟨ad',us',e',hc',hu'⟩:=h j hjl;rw [e] at e';cases e'
  subst hu';have:=hc' 0 _ rfl;simp only [List.length_singleton,Nat.mul_one,Nat.add_zero] at this;rw [this];simpa [hjl] using hj
end
end Go.Proofs.YtnhekaepgpbijaaGreatDoor

namespace Go.Proofs.YtnhekaepgpbijaaGreatDoor
open Go.RowKit Go.ChangeShapes Go.WideShapes Go.ChangeAt
def Txc (w:World) (v:Value) (ls:List (List UInt8)):Prop:=Txs w v ls∧∃A c,v=.slice A ls.length c∧ls.length≤c
theorem Txc.below {w w':World} {v:Value} {ls:List (List UInt8)} (h:Txc w v ls) (hb:Below w.heap.size w w'):Txc w' v ls:=⟨h.1.below hb,h.2⟩
theorem yU (w:World) (c:Nat):Txc w (.slice none 0 c) []:=⟨Gq w c,none,c,rfl,Nat.zero_le _⟩
structure kR (w:World) (A:Option Addr) (l:List Fld):Prop where
 at_:∀i x,l[i]?=some x→∃ad lv,A=some ad∧ad.block<w.heap.size∧w.cell? (ad.add (i*4))=some (.int .u8 x.k)∧w.cell? ⟨(ad.add (i*4)).block,(ad.add (i*4)).off+1,none⟩=some (.int .i64 x.n)∧w.cell? ⟨(ad.add (i*4)).block,(ad.add (i*4)).off+2,none⟩=some (.string (bs x.s))∧w.cell? ⟨(ad.add (i*4)).block,(ad.add (i*4)).off+3,none⟩=some lv∧Txc w lv x.l∧x.k<256
theorem kR.below {w w':World} {A:Option Addr} {l:List Fld} (h:kR w A l) (hb:Below w.heap.size w w'):kR w' A l:=by
 refine ⟨fun i x hx=>?_⟩;obtain ⟨ad,lv,e,h1,c0,c1,c2,c3,ht,hk⟩:=h.at_ i x hx;have key:∀p:Addr,p.block=ad.block→∀v,w.cell? p=some v→w'.cell? p=some v:=fun p hp v hv=>(hb.cell (p:=p) (by rw [hp];exact h1)).trans hv
 exact ⟨ad,lv,e,Nat.lt_of_lt_of_le h1 hb.size,key _ (ax _ _) _ c0,key _ (by rw [ax]) _ c1,key _ (by rw [ax]) _ c2,key _ (by rw [ax]) _ c3,ht.below hb,hk⟩
structure Ua (x:Fld):Prop where
 k:x.k<256
 n:(Lit.int .i64 x.n).wf=true
 s:x.s.length≤maxLen
 ll:x.l.length≤maxLen
 l:∀y∈x.l,y.length≤maxLen
theorem Kh {w:World} {v:Value} (h:Shp.ok w (.sl [.s]) v):∃ls:List (List UInt8),Txc w v ls∧ls.length≤maxLen∧∀y∈ls,y.length≤maxLen:=by
 have hcap:∃A n c,v=.slice A n c∧n≤c:=by
  simp only [Shp.ok] at h;obtain ⟨A,n,c,rfl,hn,_⟩:=h;exact ⟨A,n,c,rfl,hn⟩
 obtain ⟨ss,h1,h2,h3⟩:=Pn h;refine ⟨ss.map (·.data.toList),⟨?_,?_⟩,by simpa using h2,?_⟩
 ·unfold Txs
  rw [List.map_map]
  have:ss.map (bs ∘ fun s:ByteArray=>s.data.toList)=ss:=by
   conv=>rhs;rw [←List.map_id ss]
   rfl
  rw [this];exact h1
 ·obtain ⟨A,c,e,_⟩:=h1
  obtain ⟨A',n',c',e',hn'⟩:=hcap;rw [e] at e';injection e' with e1 e2 e3;exact ⟨A,c,by rw [e,List.length_map],by rw [List.length_map];omega⟩
 ·intro y hy
  obtain ⟨s,hs,rfl⟩:=List.mem_map.1 hy;exact h3 s hs
instance:Inhabited Fld:=⟨⟨0,0,[],[]⟩⟩
end Go.Proofs.YtnhekaepgpbijaaGreatDoor
namespace Go.Proofs.YtnhekaepgpbijaaGreatDoor
open Go.RowKit
def mh (s:List UInt8):Prop:=∃t,good t∧s=enc t∧t.k≠1
open Classical in
noncomputable def ofT (s:List UInt8):Option Tm:=if h:mh s then some h.choose else aO (bs s)
theorem Pe {t u:Tm} (ht:good t) (hu:good u) (h:enc t=enc u):t=u :=
 (yS t u [] [] ht hu (by rw [List.append_nil,List.append_nil];exact h)).1
theorem Rz {t:Tm} (ht:good t) (hk:t.k≠1):ofT (enc t)=some t:=by
 have h:mh (enc t):=⟨t,ht,rfl,hk⟩
 unfold ofT;rw [dif_pos h];exact congrArg some (Pe ht h.choose_spec.1 h.choose_spec.2.1).symm
theorem Uf (s:ByteArray):enc (.mk 1 0 0 s [])=UInt8.ofNat 241 :: (q4 s.size++s.data.toList):=by
 simp [enc,head,mid,encs,aD]
theorem jg (s:ByteArray):(enc (.mk 1 0 0 s [])).length=s.size+5:=by
 rw [Uf];simp [bU,aD];omega
open Classical in
noncomputable def mQ (t:Tm):Option (List UInt8):=if t.k=1 then (if mh t.s.data.toList then none else some t.s.data.toList) else some (enc t)
theorem PH {n:Int} {f:ByteArray} (h:f∈forms n):f.size≤13:=by
 have key:∀g∈forms n,g.size≤13:=by
  unfold forms
  repeat' refine pV (P:=fun l:List ByteArray=>∀g∈l,g.size≤13) ?_ ?_
  all_goals decide
 exact key f h
theorem xc {x:Fld} {l:List Fld} (h:x∈l):(aG x).2.length≤(dE l).length:=by
 induction l with
 | nil=>cases h
 | cons y l ih =>
  rw [dN,List.length_append];rcases List.mem_cons.1 h with rfl | h
  ·omega
  ·have:=ih h
   omega
theorem LK {α:Type} {f:α→List UInt8} {l:List α} {y:α} (h:y∈l):(f y).length≤((l.map f).flatten).length:=by
 induction l with
 | nil=>cases h
 | cons x l ih =>
  simp only [List.map_cons,List.flatten_cons,List.length_append];rcases List.mem_cons.1 h with rfl | h
  ·omega
  ·have:=ih h
   omega
theorem Qu (k:Nat):cntF k=0∨cntF k=1∨cntF k=2:=by
 unfold cntF
 split
 ·exact .inl rfl
 ·split
  ·exact .inr (.inr rfl)
  ·exact .inr (.inl rfl)
theorem Ls {s:List UInt8} (h:dI s=false):s.length≤(dP s).length:=by
 have h1:=jw (dP s);rw [qX h] at h1;exact h1
theorem Cf {x:Fld} (h:okF x):x.s.length≤(aG x).2.length+16∧x.l.length≤16∧∀y∈x.l,y.length≤(aG x).2.length+64:=by
 obtain ⟨hp,hk⟩:=h;rcases Qu x.k with hc | hc | hc
 ·have e:=yE hp hc
  rw [e];exact ⟨by simp,by simp,fun y hy=>by simp at hy⟩
 ·have e:=rF hp hc
  have hl:x.l=[]:=congrArg Fld.l e;clear e;refine ⟨?_,by rw [hl];simp,fun y hy=>by rw [hl] at hy;cases hy⟩;unfold aG at hk ⊢;unfold cntF at hc
  split
  ·simp_all
  ·split
   ·simp_all
   ·split
    ·split
     ·simp_all
     ·rename_i ha
      have ha2:dI x.s=false:=by simpa using ha
      have:=Ls ha2;simp only;rw [jC ha2];simp only [bC,List.length_append,bU];omega
    ·split
     ·simp_all
     ·split
      ·split
       ·simp only
        omega
       ·simp_all
      ·split
       ·simp_all
       ·simp only [bC,List.length_append,bU]
        omega
 ·have e:=yL hp hc
  have hs:x.s=[]:=congrArg Fld.s e;clear e;rw [hs];unfold aG at hk ⊢;unfold cntF at hc
  split
  ·simp_all
  ·split
   ·simp_all
   ·split
    ·simp_all
    ·split
     ·split
      ·rename_i hw
       obtain ⟨w1,w2⟩:=iK hw;exact ⟨by simp,w1,fun y hy=>by have:=(fH (w2 y hy)).2;omega⟩
      ·simp_all
     ·split
      ·simp_all
      ·split
       ·split
        ·simp_all
        ·split
         ·simp_all
         ·refine ⟨by simp,by omega,fun y hy=>?_⟩
          have:=LK (f:=bC) hy;simp only [bC,List.length_append,bU] at this;simp only [kY,List.length_append,bU];omega
       ·simp_all
end Go.Proofs.YtnhekaepgpbijaaGreatDoor
