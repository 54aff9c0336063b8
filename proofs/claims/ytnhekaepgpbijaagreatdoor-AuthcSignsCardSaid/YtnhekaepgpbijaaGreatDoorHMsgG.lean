/-
  Several of my texts in one: MsgP, Schema, SchemaFit, MsgQ, Law, Open, MsgM.
-/
import Derived.Test.YtnhekaepgpbijaaGreatDoorHSignPG
import Derived.Test.YtnhekaepgpbijaaGreatDoorHMkrG
import Derived.Test.YtnhekaepgpbijaaGreatDoorHParseAG
import Derived.ProofKit
import Derived.OpenShut
import Derived.ChangeOld
import Derived.HandedShaped
import Derived.ChangeArms
set_option linter.unusedVariables false
set_option linter.unusedSimpArgs false
set_option maxHeartbeats 40000000
set_option maxRecDepth 100000
namespace Go.Proofs.YtnhekaepgpbijaaGreatDoor
def rightL (s:List UInt8):Bool:=(s.all fun c=>decide (33≤c.toNat) && decide (c.toNat≤126) && !(c == 44)) && decide (1≤s.length) && decide (s.length≤64)
def wrongN (l:List (List UInt8)):Nat:=if 16<l.length then 2 else if l.all rightL=true then 0 else 3
def joinC:List (List UInt8)→List UInt8
 | []=>[]
 | [x]=>x
 | x :: y :: r=>x++44 :: joinC (y :: r)
def splitC:List UInt8→List (List UInt8)
 | []=>[[]]
 | c :: r=>if c=44 then [] :: splitC r else ((c :: (splitC r).headD []) :: (splitC r).tail)
theorem splitC_ne (s:List UInt8):splitC s≠[]:=by
 cases s with
 | nil=>simp [splitC]
 | cons c r =>
  unfold splitC
  split <;> simp
theorem joinC_cons (x:List UInt8) {l:List (List UInt8)} (h:l≠[]):joinC (x :: l)=x++44 :: joinC l:=by
 cases l with
 | nil=>exact absurd rfl h
 | cons y r=>rfl
theorem joinC_splitC (s:List UInt8):joinC (splitC s)=s:=by
 induction s with
 | nil=>rfl
 | cons c r ih =>
  have hne:=splitC_ne r
  unfold splitC
  split
  ·rename_i h
   rw [joinC_cons _ hne,ih,h]
   rfl
  ·cases hs:splitC r with
   | nil=>exact absurd hs hne
   | cons x xs =>
    rw [hs] at ih
    cases xs with
    | nil =>
     simp only [joinC] at ih
     simp [joinC,ih]
    | cons y ys =>
     rw [joinC_cons _ (by simp)] at ih
     simp only [List.headD_cons,List.tail_cons]
     rw [joinC_cons _ (by simp),← ih]
     rfl
theorem splitC_none {x:List UInt8} (h:(44:UInt8) ∉ x):splitC x=[x]:=by
 induction x with
 | nil=>rfl
 | cons c r ih =>
  simp only [List.mem_cons,not_or] at h
  unfold splitC
  rw [if_neg (fun e=>h.1 e.symm),ih h.2]
  rfl
theorem splitC_app {x:List UInt8} (h:(44:UInt8) ∉ x) (r:List UInt8):splitC (x++44 :: r)=x :: splitC r:=by
 induction x with
 | nil=>simp [splitC]
 | cons c x ih =>
  simp only [List.mem_cons,not_or] at h
  rw [List.cons_append,splitC,if_neg (fun e=>h.1 e.symm),ih h.2]
  rfl
theorem splitC_joinC {l:List (List UInt8)} (hl:l≠[]) (h:∀x∈l,(44:UInt8) ∉ x):splitC (joinC l)=l:=by
 induction l with
 | nil=>exact absurd rfl hl
 | cons x l ih =>
  by_cases hn:l=[]
  ·subst hn
   exact splitC_none (h x (by simp))
  ·rw [joinC_cons _ hn,splitC_app (h x (by simp)),ih hn (fun y hy=>h y (by simp [hy]))]
def splitN (s:List UInt8):Nat × List (List UInt8):=if s=[] then (0,[]) else if wrongN (splitC s)=0 then (0,splitC s) else (wrongN (splitC s),[])
theorem right_comma {s:List UInt8} (h:rightL s=true):(44:UInt8) ∉ s:=by
 intro hm
 unfold rightL at h
 simp only [Bool.and_eq_true,List.all_eq_true] at h
 have:=(h.1.1 44 hm).2
 simp at this
theorem right_len {s:List UInt8} (h:rightL s=true):1≤s.length∧s.length≤64:=by
 unfold rightL at h
 simp only [Bool.and_eq_true,decide_eq_true_eq] at h
 exact ⟨h.1.2,h.2⟩
theorem wrong_ok {l:List (List UInt8)} (h:wrongN l=0):l.length≤16∧∀x∈l,rightL x=true:=by
 unfold wrongN at h
 split at h
 ·cases h
 ·split at h
  ·rename_i h2
   exact ⟨by omega,by simpa using h2⟩
  ·cases h
theorem wrong_cases (l:List (List UInt8)):wrongN l=0∨wrongN l=2∨wrongN l=3:=by
 unfold wrongN
 split
 ·exact .inr (.inl rfl)
 ·split
  ·exact .inl rfl
  ·exact .inr (.inr rfl)
theorem splitN_join {l:List (List UInt8)} (h:wrongN l=0):splitN (joinC l)=(0,l):=by
 obtain ⟨_,h2⟩:=wrong_ok h
 unfold splitN
 by_cases hl:l=[]
 ·subst hl
  rfl
 ·have hs:=splitC_joinC hl (fun x hx=>right_comma (h2 x hx))
  have hne:joinC l≠[]:=by
   intro e
   rw [e] at hs
   have h3:=h2 [] (by rw [←hs];simp [splitC])
   have:=right_len h3
   simp at this
  rw [if_neg hne,hs,if_pos h]
theorem join_splitN {s:List UInt8} {l:List (List UInt8)} (h:splitN s=(0,l)):wrongN l=0∧joinC l=s:=by
 unfold splitN at h
 split at h
 ·rename_i hs
  injection h with _ h
  subst h hs
  exact ⟨rfl,rfl⟩
 ·split at h
  ·rename_i h2
   injection h with _ h
   subst h
   exact ⟨h2,joinC_splitC s⟩
  ·rename_i h2
   injection h with h _
   exact absurd h h2
theorem joinC_len {l:List (List UInt8)} (h:∀x∈l,x.length≤64):(joinC l).length≤l.length*65:=by
 induction l with
 | nil=>simp [joinC]
 | cons x l ih =>
  have h1:=h x (by simp)
  have h2:=ih (fun y hy=>h y (by simp [hy]))
  by_cases hn:l=[]
  ·subst hn
   simp [joinC]
   omega
  ·rw [joinC_cons _ hn]
   simp only [List.length_append,List.length_cons]
   omega
structure Fld where
 k:Nat
 n:Int
 s:List UInt8
 l:List (List UInt8)
def textL (s:List UInt8):List UInt8:=q4 s.length++s
def cntF (k:Nat):Nat:=if k=98∨k=117 then 0 else if k=110∨k=101 then 2 else 1
def plainF (x:Fld):Bool:=(decide (cntF x.k=0) || decide (x.n=0)) && ((decide (cntF x.k=1) || x.s.isEmpty) && (decide (cntF x.k=2) || x.l.isEmpty))
def extsL (l:List (List UInt8)):List UInt8:=q4 (l.length / 2)++(l.map textL).flatten
def putF (x:Fld):Nat × List UInt8 :=
 if x.k=98 then (if x.n=0 then (0,[0]) else if x.n=1 then (0,[1]) else (5,[]))
 else if x.k=117 then (if 0≤x.n∧x.n<4294967296 then (0,q4 x.n.toNat) else (5,[]))
 else if x.k=109 then (if aheadL x.s=true then (3,[]) else (0,wholeL x.s))
 else if x.k=110 then (if wrongN x.l=0 then (0,textL (joinC x.l)) else (wrongN x.l,[]))
 else if x.k=99 then (if x.s.length=16 then (0,x.s) else (3,[]))
 else if x.k=101 then (if x.l.length % 2=1 then (3,[]) else if 16<x.l.length then (2,[]) else (0,extsL x.l))
 else (0,textL x.s)
inductive Res (α:Type) where
 | ok (a:α) (r:List UInt8)
 | no (e:Nat)
def gBytes (n:Nat) (r:List UInt8):Res (List UInt8):=if r.length<n then .no 4 else .ok (r.take n) (r.drop n)
def gBool (r:List UInt8):Res Int:=match r with
 | []=>.no 4
 | c :: r'=>if c.toNat≤1 then .ok c.toNat r' else .no 3
def gU32 (r:List UInt8):Res Nat:=if r.length<4 then .no 4 else .ok (n4 r) (r.drop 4)
def gText (r:List UInt8):Res (List UInt8):=if r.length<4 then .no 4 else if r.length - 4<n4 r then .no 4 else .ok ((r.drop 4).take (n4 r)) (r.drop (4+n4 r))
def wholeK (s:List UInt8):Bool:=match s with
 | []=>true
 | c :: r=>if 128≤c.toNat then false else if c.toNat=0 then (match r with | []=>false | d :: _=>decide (128≤d.toNat)) else true
def gWhole (r:List UInt8):Res (List UInt8):=match gText r with
 | .no e=>.no e
 | .ok s r'=>if wholeK s=true then .ok (plainL s) r' else .no 3
def gTexts:Nat→List UInt8→Res (List (List UInt8))
 | 0,r=>.ok [] r
 | n+1,r=>match gText r with
  | .no e=>.no e
  | .ok s r'=>match gTexts n r' with
   | .no e=>.no e
   | .ok l r2=>.ok (s :: l) r2
def gExts (r:List UInt8):Res (List (List UInt8)):=match gU32 r with
 | .no e=>.no e
 | .ok n r'=>if 8<n then .no 2 else gTexts (2*n) r'
def gNames (r:List UInt8):Res (List (List UInt8)):=match gText r with
 | .no e=>.no e
 | .ok s r'=>if (splitN s).1=0 then .ok (splitN s).2 r' else .no (splitN s).1
def Res.map {α β:Type} (f:α→β):Res α→Res β
 | .ok a r=>.ok (f a) r
 | .no e=>.no e
def getF (k:Nat) (r:List UInt8):Res Fld :=
 if k=98 then (gBool r).map (fun n=>⟨k,n,[],[]⟩)
 else if k=117 then (gU32 r).map (fun n=>⟨k,(n:Nat),[],[]⟩)
 else if k=109 then (gWhole r).map (fun s=>⟨k,0,s,[]⟩)
 else if k=110 then (gNames r).map (fun l=>⟨k,0,[],l⟩)
 else if k=99 then (gBytes 16 r).map (fun s=>⟨k,0,s,[]⟩)
 else if k=101 then (gExts r).map (fun l=>⟨k,0,[],l⟩)
 else (gText r).map (fun s=>⟨k,0,s,[]⟩)
theorem gText_put {s:List UInt8} (h:s.length<4294967296) (r:List UInt8):gText (textL s++r)=.ok s r:=by
 unfold gText textL
 have hn:n4 (q4 s.length++s++r)=s.length:=by rw [List.append_assoc];exact n4_q4 h _
 have hlen:(q4 s.length++s++r).length=4+s.length+r.length:=by rw [List.length_append,List.length_append,q4_len]
 rw [hn,hlen,if_neg (by omega),if_neg (by omega)]
 have hd:(q4 s.length++s++r).drop 4=s++r:=by
  rw [List.append_assoc,List.drop_append_of_le_length (by simp [q4_len])]
  rfl
 rw [hd,← List.drop_drop,hd,List.take_left,List.drop_left]
theorem n4_split {r:List UInt8} (h:¬ r.length<4):q4 (n4 r)++r.drop 4=r:=by
 match r,h with
 | x :: y :: z :: u :: q,_ =>
  rw [q4_n4]
  rfl
 | [],h=>exact absurd (show ([]:List UInt8).length<4 by decide) h
 | [_],h=>exact absurd (by simp) h
 | [_,_],h=>exact absurd (by simp) h
 | [_,_,_],h=>exact absurd (by simp) h
theorem gText_get {r s r':List UInt8} (h:gText r=.ok s r'):r=textL s++r'∧s.length<4294967296:=by
 unfold gText at h
 split at h
 ·cases h
 ·rename_i h1
  split at h
  ·cases h
  ·rename_i h2
   injection h with h3 h4
   have hs:=n4_split h1
   have hlt:=n4_lt r
   rw [←List.drop_drop] at h4
   generalize n4 r=n at h2 h3 h4 hs hlt
   have hl:s.length=n:=by rw [←h3,List.length_take,List.length_drop];omega
   refine ⟨?_,by rw [hl];exact hlt⟩
   unfold textL
   rw [hl,← h3,← h4,List.append_assoc,List.take_append_drop,hs]
theorem gTexts_of {n:Nat} {r s r' r2:List UInt8} {l:List (List UInt8)} (h:gText r=.ok s r') (h2:gTexts n r'=.ok l r2):gTexts (n+1) r=.ok (s :: l) r2:=by
 simp only [gTexts]
 rw [h]
 simp only
 rw [h2]
theorem gTexts_put {l:List (List UInt8)} (h:∀x∈l,x.length<4294967296) (r:List UInt8):gTexts l.length ((l.map textL).flatten++r)=.ok l r:=by
 induction l with
 | nil=>rfl
 | cons x l ih =>
  simp only [List.map_cons,List.flatten_cons,List.length_cons,List.append_assoc]
  exact gTexts_of (gText_put (h x (by simp)) _) (ih (fun y hy=>h y (by simp [hy])))
theorem gTexts_get {n:Nat} {l:List (List UInt8)} {r r':List UInt8} (h:gTexts n r=.ok l r'):r=(l.map textL).flatten++r'∧l.length=n∧∀x∈l,x.length<4294967296:=by
 induction n generalizing r l with
 | zero =>
  simp only [gTexts] at h
  injection h with h1 h2
  subst h1 h2
  exact ⟨rfl,rfl,by simp⟩
 | succ n ih =>
  simp only [gTexts] at h
  cases ht:gText r with
  | no e=>rw [ht] at h;cases h
  | ok s r1 =>
   rw [ht] at h
   simp only at h
   cases h2:gTexts n r1 with
   | no e=>rw [h2] at h;cases h
   | ok l2 r2 =>
    rw [h2] at h
    simp only at h
    injection h with h3 h4
    subst h3 h4
    obtain ⟨e1,e2⟩:=gText_get ht
    obtain ⟨e3,e4,e5⟩:=ih h2
    refine ⟨by simp only [List.map_cons,List.flatten_cons,List.append_assoc];rw [e1,e3],by simp [e4],?_⟩
    intro x hx
    rcases List.mem_cons.1 hx with rfl | hx
    ·exact e2
    ·exact e5 x hx
theorem gU32_put {n:Nat} (h:n<4294967296) (r:List UInt8):gU32 (q4 n++r)=.ok n r:=by
 unfold gU32
 rw [if_neg (by simp [q4_len]),n4_q4 h]
 rfl
theorem gU32_get {r r':List UInt8} {n:Nat} (h:gU32 r=.ok n r'):r=q4 n++r'∧n<4294967296:=by
 unfold gU32 at h
 split at h
 ·cases h
 ·rename_i h1
  injection h with h2 h3
  have hs:=n4_split h1
  have hlt:=n4_lt r
  rw [h2] at hs hlt
  rw [←h3]
  exact ⟨hs.symm,hlt⟩
theorem signL_plain {s:List UInt8} (h:aheadL s=false):plainL (signL s)=s:=by
 cases s with
 | nil=>rfl
 | cons c r =>
  unfold signL
  simp only
  split
  ·show plainL (0 :: c :: r)=_
   unfold plainL
   rw [List.dropWhile_cons_of_pos (by rfl)]
   exact plainL_id (l:=c :: r) h
  ·exact plainL_id h
theorem signL_whole {s:List UInt8} (h:aheadL s=false):wholeK (signL s)=true:=by
 cases s with
 | nil=>rfl
 | cons c r =>
  unfold signL
  simp only
  split
  ·rename_i h1
   simp [wholeK,h1]
  ·rename_i h1
   have:¬ c.toNat=0:=fun e=>by
    have:c=0:=UInt8.toNat_inj.1 (by simpa using e)
    subst this
    simp [aheadL] at h
   simp [wholeK,h1,this]
theorem whole_sign {s:List UInt8} (h:wholeK s=true):aheadL (plainL s)=false∧signL (plainL s)=s:=by
 cases s with
 | nil=>exact ⟨rfl,rfl⟩
 | cons c r =>
  unfold wholeK at h
  simp only at h
  split at h
  ·cases h
  ·rename_i h1
   split at h
   ·rename_i h2
    have hc:c=0:=UInt8.toNat_inj.1 (by simpa using h2)
    subst hc
    cases r with
    | nil=>cases h
    | cons d q =>
     simp only [decide_eq_true_eq] at h
     have hd:¬ d=0:=fun e=>by subst e;simp at h
     have hp:plainL (0 :: d :: q)=d :: q:=by
      unfold plainL
      rw [List.dropWhile_cons_of_pos (by rfl)]
      exact plainL_id (l:=d :: q) (by simp [aheadL,hd])
     rw [hp]
     exact ⟨by simp [aheadL,hd],by simp [signL,h]⟩
   ·rename_i h2
    have hc:¬ c=0:=fun e=>by subst e;simp at h2
    have hp:plainL (c :: r)=c :: r:=plainL_id (by simp [aheadL,hc])
    rw [hp]
    exact ⟨by simp [aheadL,hc],by simp [signL,h1]⟩
theorem whole_text {s:List UInt8} (h:aheadL s=false):wholeL s=textL (signL s):=by
 unfold wholeL textL
 rw [plainL_id h]
theorem gWhole_of {r t q:List UInt8} (h:gText r=.ok t q):gWhole r=if wholeK t=true then .ok (plainL t) q else .no 3:=by
 unfold gWhole
 rw [h]
theorem gNames_of {r t q:List UInt8} (h:gText r=.ok t q):gNames r=if (splitN t).1=0 then .ok (splitN t).2 q else .no (splitN t).1:=by
 unfold gNames
 rw [h]
theorem gExts_of {r q:List UInt8} {n:Nat} (h:gU32 r=.ok n q):gExts r=if 8<n then .no 2 else gTexts (2*n) q:=by
 unfold gExts
 rw [h]
theorem gWhole_put {s:List UInt8} (h:aheadL s=false) (hl:s.length<4294967290) (r:List UInt8):gWhole (wholeL s++r)=.ok s r:=by
 have:=signL_len s
 have hg:=gText_put (s:=signL s) (by omega) r
 rw [←whole_text h] at hg
 rw [gWhole_of hg,if_pos (signL_whole h),signL_plain h]
theorem gWhole_get {r s r':List UInt8} (h:gWhole r=.ok s r'):r=wholeL s++r'∧aheadL s=false:=by
 unfold gWhole at h
 cases ht:gText r with
 | no e=>rw [ht] at h;cases h
 | ok t r1 =>
  rw [ht] at h
  simp only at h
  split at h
  ·rename_i hw
   injection h with h1 h2
   obtain ⟨e1,_⟩:=gText_get ht
   obtain ⟨e3,e4⟩:=whole_sign hw
   subst h1 h2
   refine ⟨?_,e3⟩
   rw [whole_text e3,e4,e1]
  ·cases h
def fitF (x:Fld):Prop:=x.s.length<4294967000∧∀y∈x.l,y.length<4294967000
theorem fld_num {x:Fld} (h:plainF x=true) (hc:cntF x.k=0):x=⟨x.k,x.n,[],[]⟩:=by
 obtain ⟨k,n,s,l⟩:=x
 simp only [plainF] at h hc
 simp_all
theorem fld_txt {x:Fld} (h:plainF x=true) (hc:cntF x.k=1):x=⟨x.k,0,x.s,[]⟩:=by
 obtain ⟨k,n,s,l⟩:=x
 simp only [plainF] at h hc
 simp_all
theorem fld_lst {x:Fld} (h:plainF x=true) (hc:cntF x.k=2):x=⟨x.k,0,[],x.l⟩:=by
 obtain ⟨k,n,s,l⟩:=x
 simp only [plainF] at h hc
 simp_all
theorem Res.map_ok {α β:Type} (f:α→β) (a:α) (r:List UInt8):(Res.ok a r).map f=.ok (f a) r:=rfl
theorem getF_98 {k:Nat} (r:List UInt8) (h:k=98):getF k r=(gBool r).map (fun n=>⟨k,n,[],[]⟩):=by unfold getF;rw [if_pos h]
theorem getF_117 {k:Nat} (r:List UInt8) (h:k=117):getF k r=(gU32 r).map (fun n=>⟨k,(n:Nat),[],[]⟩):=by unfold getF;rw [if_neg (by omega),if_pos h]
theorem getF_109 {k:Nat} (r:List UInt8) (h:k=109):getF k r=(gWhole r).map (fun s=>⟨k,0,s,[]⟩):=by unfold getF;rw [if_neg (by omega),if_neg (by omega),if_pos h]
theorem getF_110 {k:Nat} (r:List UInt8) (h:k=110):getF k r=(gNames r).map (fun l=>⟨k,0,[],l⟩):=by unfold getF;rw [if_neg (by omega),if_neg (by omega),if_neg (by omega),if_pos h]
theorem getF_99 {k:Nat} (r:List UInt8) (h:k=99):getF k r=(gBytes 16 r).map (fun s=>⟨k,0,s,[]⟩):=by unfold getF;rw [if_neg (by omega),if_neg (by omega),if_neg (by omega),if_neg (by omega),if_pos h]
theorem getF_101 {k:Nat} (r:List UInt8) (h:k=101):getF k r=(gExts r).map (fun l=>⟨k,0,[],l⟩):=by unfold getF;rw [if_neg (by omega),if_neg (by omega),if_neg (by omega),if_neg (by omega),if_neg (by omega),if_pos h]
theorem getF_else {k:Nat} (r:List UInt8) (h0:¬ k=98) (h1:¬ k=117) (h2:¬ k=109) (h3:¬ k=110) (h4:¬ k=99) (h5:¬ k=101):getF k r=(gText r).map (fun s=>⟨k,0,s,[]⟩):=by
 unfold getF
 rw [if_neg h0,if_neg h1,if_neg h2,if_neg h3,if_neg h4,if_neg h5]
theorem gBool_cons (c:UInt8) (r:List UInt8):gBool (c :: r)=if c.toNat≤1 then .ok c.toNat r else .no 3:=rfl
theorem gBytes_put {n:Nat} {s:List UInt8} (h:s.length=n) (r:List UInt8):gBytes n (s++r)=.ok s r:=by
 unfold gBytes
 rw [if_neg (by rw [List.length_append];omega),← h,List.take_left,List.drop_left]
theorem get_put {x:Fld} {b:List UInt8} (hf:fitF x) (hp:plainF x=true) (h:putF x=(0,b)) (r:List UInt8):getF x.k (b++r)=.ok x r:=by
 unfold putF at h
 split at h
 ·rename_i h0
  have e:=fld_num hp (by simp [cntF,h0])
  split at h
  ·rename_i hn
   injection h with _ h
   subst h
   rw [getF_98 _ h0,List.singleton_append,gBool_cons,if_pos (by decide),Res.map_ok,e,hn]
   rfl
  ·split at h
   ·rename_i hn
    injection h with _ h
    subst h
    rw [getF_98 _ h0,List.singleton_append,gBool_cons,if_pos (by decide),Res.map_ok,e,hn]
    rfl
   ·injection h with h _;cases h
 ·rename_i h0
  split at h
  ·rename_i h1
   have e:=fld_num hp (by simp [cntF,h1])
   split at h
   ·rename_i hn
    injection h with _ h
    subst h
    rw [getF_117 _ h1,gU32_put (by omega),Res.map_ok,show ((x.n.toNat:Nat):Int)=x.n from by omega,← e]
   ·injection h with h _;cases h
  ·rename_i h1
   split at h
   ·rename_i h2
    have e:=fld_txt hp (by simp [cntF,h2])
    split at h
    ·injection h with h _;cases h
    ·rename_i ha
     injection h with _ h
     subst h
     rw [getF_109 _ h2,gWhole_put (by simpa using ha) (by have:=hf.1;omega),Res.map_ok,← e]
   ·rename_i h2
    split at h
    ·rename_i h3
     have e:=fld_lst hp (by simp [cntF,h3])
     split at h
     ·rename_i hw
      injection h with _ h
      subst h
      obtain ⟨w1,w2⟩:=wrong_ok hw
      have hl:=joinC_len (l:=x.l) (fun y hy=>(right_len (w2 y hy)).2)
      have hs:=splitN_join hw
      rw [getF_110 _ h3,gNames_of (gText_put (by omega) r),hs,if_pos rfl,Res.map_ok,← e]
     ·rename_i hw
      injection h with h _
      exact absurd h hw
    ·rename_i h3
     split at h
     ·rename_i h4
      have e:=fld_txt hp (by simp [cntF,h4])
      split at h
      ·rename_i hs
       injection h with _ h
       subst h
       rw [getF_99 _ h4,gBytes_put hs,Res.map_ok,← e]
      ·injection h with h _;cases h
     ·rename_i h4
      split at h
      ·rename_i h5
       have e:=fld_lst hp (by simp [cntF,h5])
       split at h
       ·injection h with h _;cases h
       ·split at h
        ·injection h with h _;cases h
        ·rename_i ho hl
         injection h with _ h
         subst h
         have hg:=gU32_put (n:=x.l.length / 2) (by omega) ((x.l.map textL).flatten++r)
         have ht:=gTexts_put (l:=x.l) (fun y hy=>by have:=hf.2 y hy;omega) r
         rw [←List.append_assoc] at hg
         rw [getF_101 _ h5,show extsL x.l=q4 (x.l.length / 2)++(x.l.map textL).flatten from rfl,gExts_of hg,if_neg (by omega),show 2*(x.l.length / 2)=x.l.length from by omega,ht,Res.map_ok,← e]
      ·rename_i h5
       have e:=fld_txt hp (by simp [cntF, *])
       injection h with _ h
       subst h
       rw [getF_else _ h0 h1 h2 h3 h4 h5,gText_put (by have:=hf.1;omega),Res.map_ok,← e]
theorem put_get {k:Nat} {r r':List UInt8} {x:Fld} (h:getF k r=.ok x r'):x.k=k∧plainF x=true∧∃b,putF x=(0,b)∧r=b++r':=by
 unfold getF at h
 split at h
 ·rename_i h0
  subst h0
  cases r with
  | nil=>cases h
  | cons c q =>
   simp only [gBool] at h
   split at h
   ·rename_i hc
    injection h with h1 h2
    subst h1 h2
    refine ⟨rfl,rfl,[c],?_,rfl⟩
    have hcc:c.toNat=0∨c.toNat=1:=by omega
    rcases hcc with hcc | hcc
    ·have:c=0:=UInt8.toNat_inj.1 (by simpa using hcc)
     subst this
     rfl
    ·have:c=1:=UInt8.toNat_inj.1 (by simpa using hcc)
     subst this
     rfl
   ·cases h
 ·rename_i h0
  split at h
  ·rename_i h1
   subst h1
   cases hg:gU32 r with
   | no e=>rw [hg] at h;cases h
   | ok n q =>
    rw [hg] at h
    injection h with h2 h3
    subst h2 h3
    obtain ⟨e1,e2⟩:=gU32_get hg
    refine ⟨rfl,rfl,q4 n,?_,e1⟩
    simp only [putF]
    rw [if_neg (by omega),if_pos trivial,if_pos ⟨by omega,by omega⟩]
    simp
  ·rename_i h1
   split at h
   ·rename_i h2
    subst h2
    cases hg:gWhole r with
    | no e=>rw [hg] at h;cases h
    | ok s q =>
     rw [hg] at h
     injection h with h3 h4
     subst h3 h4
     obtain ⟨e1,e2⟩:=gWhole_get hg
     refine ⟨rfl,by simp [plainF,cntF],wholeL s,?_,e1⟩
     simp [putF,e2]
   ·rename_i h2
    split at h
    ·rename_i h3
     subst h3
     unfold gNames at h
     cases hg:gText r with
     | no e=>rw [hg] at h;cases h
     | ok s q =>
      rw [hg] at h
      simp only at h
      split at h
      ·rename_i hs
       injection h with h4 h5
       subst h4 h5
       obtain ⟨e1,e2⟩:=gText_get hg
       have hj:=join_splitN (s:=s) (l:=(splitN s).2) (by rw [←hs])
       refine ⟨rfl,by simp [plainF,cntF],textL s,?_,e1⟩
       simp only [putF]
       rw [if_neg (by omega),if_neg (by omega),if_neg (by omega),if_pos trivial,if_pos hj.1,hj.2]
      ·cases h
    ·rename_i h3
     split at h
     ·rename_i h4
      subst h4
      unfold gBytes at h
      split at h
      ·cases h
      ·rename_i hl
       injection h with h5 h6
       subst h5 h6
       refine ⟨rfl,by simp [plainF,cntF],r.take 16,?_,(List.take_append_drop 16 r).symm⟩
       simp only [putF]
       rw [if_neg (by omega),if_neg (by omega),if_neg (by omega),if_neg (by omega),if_pos trivial,if_pos (by rw [List.length_take];omega)]
     ·rename_i h4
      split at h
      ·rename_i h5
       subst h5
       unfold gExts at h
       cases hg:gU32 r with
       | no e=>rw [hg] at h;cases h
       | ok n q =>
        rw [hg] at h
        simp only at h
        split at h
        ·cases h
        ·rename_i hn
         cases ht:gTexts (2*n) q with
         | no e=>rw [ht] at h;cases h
         | ok l q2 =>
          rw [ht] at h
          injection h with h6 h7
          subst h6 h7
          obtain ⟨e1,e2⟩:=gU32_get hg
          obtain ⟨e3,e4,e5⟩:=gTexts_get ht
          refine ⟨rfl,by simp [plainF,cntF],extsL l,?_,?_⟩
          ·simp only [putF]
           rw [if_neg (by omega),if_neg (by omega),if_neg (by omega),if_neg (by omega),if_neg (by omega),if_pos trivial,if_neg (by omega),if_neg (by omega)]
          ·unfold extsL
           rw [e4,show 2*n / 2=n from by omega,e1,e3,List.append_assoc]
      ·rename_i h5
       cases hg:gText r with
       | no e=>rw [hg] at h;cases h
       | ok s q =>
        rw [hg] at h
        injection h with h6 h7
        subst h6 h7
        obtain ⟨e1,e2⟩:=gText_get hg
        refine ⟨rfl,by simp [plainF,cntF, *],textL s,?_,e1⟩
        simp [putF, *]
end Go.Proofs.YtnhekaepgpbijaaGreatDoor

namespace Go.Proofs.YtnhekaepgpbijaaGreatDoor
open Go.RowKit
def forms (n:Int):List ByteArray :=
 if n=1 then [⟨#[117,115,115]⟩] else if n=2 then [⟨#[115]⟩] else if n=5 then [⟨#[115]⟩] else if n=6 then [⟨#[115]⟩]
 else if n=3 then [⟨#[117]⟩] else if n=4 then [⟨#[98,115,115]⟩] else if n=7 then [⟨#[101]⟩]
 else if n=20 then [⟨#[99,110,110,110,110,110,110,110,110,110,110,98,117]⟩] else if n=21 then [⟨#[]⟩] else if n=52 then [⟨#[]⟩]
 else if n=30 then [⟨#[116]⟩] else if n=32 then [⟨#[116]⟩] else if n=31 then [⟨#[116,116,116]⟩,⟨#[109,109]⟩]
 else if n=33 then [⟨#[116,116,116]⟩] else if n=34 then [⟨#[117,117,117]⟩]
 else if n=50 then [⟨#[115,115,115]⟩,⟨#[115,115,115,98,115,116]⟩,⟨#[115,115,115,98,115,116,116]⟩]
 else if n=51 then [⟨#[110,98]⟩] else if n=53 then [⟨#[115,115]⟩] else if n=60 then [⟨#[115,116]⟩] else []

theorem forms_len (n:Int):(forms n).length≤3:=by
 unfold forms
 repeat' refine ite_ok (P:=fun l:List ByteArray=>l.length≤3) ?_ ?_
 all_goals decide
theorem forms_any (n:Int) (w:World) :
  Calls Tryz.prog 45 #[.int .i64 n] w fun e w'=>∃v,e=.returned v∧Strs w.heap.size w' v (forms n)∧Below w.heap.size w w':=by
 by_cases h1:n=1
 ·subst h1
  go_enter Tryz.func45,Tryz.ntmps45
  go_wp2
  go_ret
  exact ⟨_,rfl,strs_new w 9 (forms 1) _ rfl,(Below.refl _ _).alloc (Nat.le_refl _) _⟩
 by_cases h2:n=2
 ·subst h2
  go_enter Tryz.func45,Tryz.ntmps45
  go_wp2
  go_ret
  exact ⟨_,rfl,strs_new w 9 (forms 2) _ rfl,(Below.refl _ _).alloc (Nat.le_refl _) _⟩
 by_cases h5:n=5
 ·subst h5
  go_enter Tryz.func45,Tryz.ntmps45
  go_wp2
  go_ret
  exact ⟨_,rfl,strs_new w 9 (forms 5) _ rfl,(Below.refl _ _).alloc (Nat.le_refl _) _⟩
 by_cases h6:n=6
 ·subst h6
  go_enter Tryz.func45,Tryz.ntmps45
  go_wp2
  go_ret
  exact ⟨_,rfl,strs_new w 9 (forms 6) _ rfl,(Below.refl _ _).alloc (Nat.le_refl _) _⟩
 by_cases h3:n=3
 ·subst h3
  go_enter Tryz.func45,Tryz.ntmps45
  go_wp2
  go_ret
  exact ⟨_,rfl,strs_new w 9 (forms 3) _ rfl,(Below.refl _ _).alloc (Nat.le_refl _) _⟩
 by_cases h4:n=4
 ·subst h4
  go_enter Tryz.func45,Tryz.ntmps45
  go_wp2
  go_ret
  exact ⟨_,rfl,strs_new w 9 (forms 4) _ rfl,(Below.refl _ _).alloc (Nat.le_refl _) _⟩
 by_cases h7:n=7
 ·subst h7
  go_enter Tryz.func45,Tryz.ntmps45
  go_wp2
  go_ret
  exact ⟨_,rfl,strs_new w 9 (forms 7) _ rfl,(Below.refl _ _).alloc (Nat.le_refl _) _⟩
 by_cases h20:n=20
 ·subst h20
  go_enter Tryz.func45,Tryz.ntmps45
  go_wp2
  go_ret
  exact ⟨_,rfl,strs_new w 9 (forms 20) _ rfl,(Below.refl _ _).alloc (Nat.le_refl _) _⟩
 by_cases h21:n=21
 ·subst h21
  go_enter Tryz.func45,Tryz.ntmps45
  go_wp2
  go_ret
  exact ⟨_,rfl,strs_new w 9 (forms 21) _ rfl,(Below.refl _ _).alloc (Nat.le_refl _) _⟩
 by_cases h52:n=52
 ·subst h52
  go_enter Tryz.func45,Tryz.ntmps45
  go_wp2
  go_ret
  exact ⟨_,rfl,strs_new w 9 (forms 52) _ rfl,(Below.refl _ _).alloc (Nat.le_refl _) _⟩
 by_cases h30:n=30
 ·subst h30
  go_enter Tryz.func45,Tryz.ntmps45
  go_wp2
  go_ret
  exact ⟨_,rfl,strs_new w 9 (forms 30) _ rfl,(Below.refl _ _).alloc (Nat.le_refl _) _⟩
 by_cases h32:n=32
 ·subst h32
  go_enter Tryz.func45,Tryz.ntmps45
  go_wp2
  go_ret
  exact ⟨_,rfl,strs_new w 9 (forms 32) _ rfl,(Below.refl _ _).alloc (Nat.le_refl _) _⟩
 by_cases h31:n=31
 ·subst h31
  go_enter Tryz.func45,Tryz.ntmps45
  go_wp2
  go_ret
  exact ⟨_,rfl,strs_new w 9 (forms 31) _ rfl,(Below.refl _ _).alloc (Nat.le_refl _) _⟩
 by_cases h33:n=33
 ·subst h33
  go_enter Tryz.func45,Tryz.ntmps45
  go_wp2
  go_ret
  exact ⟨_,rfl,strs_new w 9 (forms 33) _ rfl,(Below.refl _ _).alloc (Nat.le_refl _) _⟩
 by_cases h34:n=34
 ·subst h34
  go_enter Tryz.func45,Tryz.ntmps45
  go_wp2
  go_ret
  exact ⟨_,rfl,strs_new w 9 (forms 34) _ rfl,(Below.refl _ _).alloc (Nat.le_refl _) _⟩
 by_cases h50:n=50
 ·subst h50
  go_enter Tryz.func45,Tryz.ntmps45
  go_wp2
  go_ret
  exact ⟨_,rfl,strs_new w 9 (forms 50) _ rfl,(Below.refl _ _).alloc (Nat.le_refl _) _⟩
 by_cases h51:n=51
 ·subst h51
  go_enter Tryz.func45,Tryz.ntmps45
  go_wp2
  go_ret
  exact ⟨_,rfl,strs_new w 9 (forms 51) _ rfl,(Below.refl _ _).alloc (Nat.le_refl _) _⟩
 by_cases h53:n=53
 ·subst h53
  go_enter Tryz.func45,Tryz.ntmps45
  go_wp2
  go_ret
  exact ⟨_,rfl,strs_new w 9 (forms 53) _ rfl,(Below.refl _ _).alloc (Nat.le_refl _) _⟩
 by_cases h60:n=60
 ·subst h60
  go_enter Tryz.func45,Tryz.ntmps45
  go_wp2
  go_ret
  exact ⟨_,rfl,strs_new w 9 (forms 60) _ rfl,(Below.refl _ _).alloc (Nat.le_refl _) _⟩
 go_enter Tryz.func45,Tryz.ntmps45
 go_wp2
 go_ret
 refine ⟨_,rfl,?_,Below.refl _ _⟩
 rw [forms]
 simp only [*,if_false]
 exact ⟨none,0,rfl,Sl.nil_⟩
def fit (n m:Int):ByteArray × Bool:=match (forms n).find? (fun s=>(s.size:Int) == m) with | some s=>(s,true) | none=>(⟨#[]⟩,false)
theorem fit_any (n m:Int) (w:World) :
  Calls Tryz.prog 117 #[.int .i64 n,.int .i64 m] w fun e w'=>e=.returned (.tuple #[.string (fit n m).1,.bool (fit n m).2])∧Below w.heap.size w w':=by
 have hl:=forms_len n
 go_enter Tryz.func117,Tryz.ntmps117
 go_wp2_with (go_at_call 45;refine (forms_any _ _).mono ?_;rintro e w1 ⟨v,rfl,⟨A,c,rfl,hr⟩,hb⟩)
 go_loop [11] (fun i=>∃k:Nat,k≤(forms n).length∧i=.int .i64 k∧∀j s,j<k→(forms n)[j]?=some s→(s.size:Int)≠m) (fun i=>(forms n).length - (intOf i).toNat)
 case atStart=>exact ⟨0,Nat.zero_le _,rfl,by simp⟩
 case round =>
  obtain ⟨k,hk,rfl,hno⟩:=hrel
  by_cases hlt:k<(forms n).length
  ·obtain ⟨ad,hA,_,hc⟩:=hr.str hlt
   generalize hs:(forms n)[k]=s at hc
   have hs':(forms n)[k]?=some s:=by rw [List.getElem?_eq_getElem hlt,hs]
   by_cases hm:(s.size:Int)=m
   ·have hf:fit n m=(s,true):=by
     have:(forms n).find? (fun s=>(s.size:Int) == m)=some s:=by
      rw [List.find?_eq_some_iff_getElem]
      exact ⟨by simpa using hm,k,hlt,hs,fun j hj=>by simpa using hno j _ hj (List.getElem?_eq_getElem (by omega))⟩
     simp [fit,this]
    have Hf:=hide hf
    clear hf hs hs' hno
    go_wp2
    go_ret2
    exact ⟨by rw [Hf.out];rfl,hb⟩
   ·have hno':∀j s,j<k+1→(forms n)[j]?=some s→(s.size:Int)≠m:=by
     intro j s' hj hs2
     by_cases hjk:j=k
     ·subst hjk
      rw [hs'] at hs2
      cases hs2
      exact hm
     ·exact hno j s' (by omega) hs2
    have Hno:=hide hno'
    clear hs hs' hno hno'
    go_wp2
    go_round
    case rel=>exact ⟨k+1,hlt,by go_num,Hno.out⟩
    case measure=>simp [intOf];omega
  ·have hf:fit n m=(⟨#[]⟩,false):=by
    have:(forms n).find? (fun s=>(s.size:Int) == m)=none:=by
     rw [List.find?_eq_none]
     intro s hs
     obtain ⟨j,hj,rfl⟩:=List.getElem_of_mem hs
     simpa using hno j _ (by omega) (List.getElem?_eq_getElem hj)
    simp [fit,this]
   have Hf:=hide hf
   clear hf hno
   go_wp2
   go_ret2
   exact ⟨by rw [Hf.out];rfl,hb⟩
theorem forms_apart (n:Int):((forms n).map ByteArray.size).Nodup:=by
 unfold forms
 repeat' refine ite_ok (P:=fun l:List ByteArray=>(l.map ByteArray.size).Nodup) ?_ ?_
 all_goals decide
theorem forms_ne (n:Int) {i j:Nat} (hij:i<j) (hj:j<(forms n).length):((forms n)[i].size:Int)≠(forms n)[j].size:=by
 have h:=List.pairwise_iff_getElem.1 (forms_apart n) i j (by simp;omega) (by simpa using hj) hij
 simp only [List.getElem_map] at h
 omega
theorem fit_own (n:Int) {i:Nat} (hi:i<(forms n).length):fit n ((forms n)[i].size:Int)=((forms n)[i],true):=by
 have:(forms n).find? (fun s=>(s.size:Int) == ((forms n)[i].size:Int))=some (forms n)[i]:=by
  rw [List.find?_eq_some_iff_getElem]
  exact ⟨by simp,i,hi,rfl,fun j hj=>by simpa using forms_ne n hj hi⟩
 simp [fit,this]
end Go.Proofs.YtnhekaepgpbijaaGreatDoor

namespace Go.Proofs.YtnhekaepgpbijaaGreatDoor
inductive RdR where
 | ok (l:List Fld)
 | no (e:Nat) (i:Nat)
 | tail
def RdR.cons (x:Fld):RdR→RdR
 | .ok l=>.ok (x :: l)
 | .no e j=>.no e j
 | .tail=>.tail
def readFs:List UInt8→List UInt8→Nat→RdR
 | [],r,_=>if r=[] then .ok [] else .tail
 | c :: f,r,i=>match getF c.toNat r with
  | .no e=>.no e i
  | .ok x r'=>(readFs f r' (i+1)).cons x
theorem readFs_of {c:UInt8} {f r r':List UInt8} {i:Nat} {x:Fld} (h:getF c.toNat r=.ok x r'):readFs (c :: f) r i=(readFs f r' (i+1)).cons x:=by
 simp only [readFs]
 rw [h]
theorem readFs_no {c:UInt8} {f r:List UInt8} {i e:Nat} (h:getF c.toNat r=.no e):readFs (c :: f) r i=.no e i:=by
 simp only [readFs]
 rw [h]
def putFs (l:List Fld):List UInt8:=(l.map fun x=>(putF x).2).flatten
theorem putFs_cons (x:Fld) (l:List Fld):putFs (x :: l)=(putF x).2++putFs l:=by simp [putFs]
def okF (x:Fld):Prop:=plainF x=true∧(putF x).1=0
theorem okF_put {x:Fld} (h:okF x):putF x=(0,(putF x).2):=by
 have:=h.2
 generalize putF x=p at this ⊢
 obtain ⟨a,b⟩:=p
 simp only at this
 rw [this]
theorem readFs_put {l:List Fld} {f:List UInt8} (hk:l.map (·.k)=f.map (·.toNat)) (h:∀x∈l,okF x∧fitF x) (i:Nat):readFs f (putFs l) i=.ok l:=by
 induction f generalizing l i with
 | nil =>
  have:l=[]:=by simpa using hk
  subst this
  rfl
 | cons c f ih =>
  cases l with
  | nil=>simp at hk
  | cons x l =>
   simp only [List.map_cons,List.cons.injEq] at hk
   have hx:=h x (by simp)
   rw [putFs_cons]
   have hg:=get_put hx.2 hx.1.1 (okF_put hx.1) (putFs l)
   rw [hk.1] at hg
   rw [readFs_of hg,ih hk.2 (fun y hy=>h y (by simp [hy]))]
   rfl
theorem readFs_get {f r:List UInt8} {i:Nat} {l:List Fld} (h:readFs f r i=.ok l):l.map (·.k)=f.map (·.toNat)∧(∀x∈l,okF x)∧r=putFs l:=by
 induction f generalizing l r i with
 | nil =>
  simp only [readFs] at h
  split at h
  ·rename_i hr
   injection h with h
   subst h hr
   exact ⟨rfl,by simp,rfl⟩
  ·cases h
 | cons c f ih =>
  simp only [readFs] at h
  cases hg:getF c.toNat r with
  | no e=>rw [hg] at h;cases h
  | ok x r' =>
   rw [hg] at h
   simp only at h
   cases h2:readFs f r' (i+1) with
   | no e j=>rw [h2] at h;cases h
   | tail=>rw [h2] at h;cases h
   | ok l2 =>
    rw [h2] at h
    simp only [RdR.cons] at h
    injection h with h
    subst h
    obtain ⟨e1,e2,b,e3,e4⟩:=put_get hg
    obtain ⟨e5,e6,e7⟩:=ih h2
    refine ⟨by simp [e1,e5],?_,by rw [putFs_cons,e3,e4,e7]⟩
    intro y hy
    rcases List.mem_cons.1 hy with rfl | hy
    ·exact ⟨e2,by rw [e3]⟩
    ·exact e6 y hy
inductive EncR where
 | ok (s:List UInt8)
 | none
 | long
 | bad (e:Nat) (i:Nat)
def encGo:List UInt8→List Fld→Nat→List UInt8→EncR
 | c :: f,x :: l,i,out =>
  if x.k=c.toNat∧plainF x=true then (if (putF x).1=0 then (if 32768<(out++(putF x).2).length then .long else encGo f l (i+1) (out++(putF x).2)) else .bad (putF x).1 i) else .bad 3 i
 | _,_,_,out=>.ok out
def encS (num:Int) (l:List Fld):EncR :=
 if (fit num l.length).2=true then encGo (fit num l.length).1.data.toList l 0 [UInt8.ofNat num.toNat] else .none
theorem encGo_ok {f:List UInt8} {l:List Fld} {i:Nat} {out:List UInt8} (hk:l.map (·.k)=f.map (·.toNat)) (h:∀x∈l,okF x) (hl:(out++putFs l).length≤32768):encGo f l i out=.ok (out++putFs l):=by
 induction f generalizing l i out with
 | nil =>
  have:l=[]:=by simpa using hk
  subst this
  simp [encGo,putFs]
 | cons c f ih =>
  cases l with
  | nil=>simp at hk
  | cons x l =>
   simp only [List.map_cons,List.cons.injEq] at hk
   have hx:=h x (by simp)
   rw [putFs_cons,← List.append_assoc] at hl
   simp only [encGo]
   rw [if_pos ⟨hk.1,hx.1⟩,if_pos hx.2,if_neg (by rw [List.length_append] at hl;omega),ih hk.2 (fun y hy=>h y (by simp [hy])) hl,putFs_cons,List.append_assoc]
theorem encGo_get {f:List UInt8} {l:List Fld} {i:Nat} {out s:List UInt8} (hl:l.length=f.length) (h:encGo f l i out=.ok s):l.map (·.k)=f.map (·.toNat)∧(∀x∈l,okF x)∧s=out++putFs l∧(s.length≤32768∨s=out):=by
 induction f generalizing l i out with
 | nil =>
  have:l=[]:=by simpa using hl
  subst this
  simp only [encGo] at h
  injection h with h
  subst h
  exact ⟨rfl,by simp,by simp [putFs],.inr rfl⟩
 | cons c f ih =>
  cases l with
  | nil=>simp at hl
  | cons x l =>
   simp only [encGo] at h
   split at h
   ·rename_i h1
    split at h
    ·rename_i h2
     split at h
     ·cases h
     ·rename_i h3
      obtain ⟨e1,e2,e3,e4⟩:=ih (by simpa using hl) h
      refine ⟨by simp [h1.1,e1],?_,by rw [putFs_cons,e3,List.append_assoc],?_⟩
      ·intro y hy
       rcases List.mem_cons.1 hy with rfl | hy
       ·exact ⟨h1.2,h2⟩
       ·exact e2 y hy
      ·rcases e4 with e4 | e4
       ·exact .inl e4
       ·exact .inl (by rw [e4];omega)
    ·cases h
   ·cases h
inductive DecR where
 | ok (num:Nat) (l:List Fld)
 | all (e:Nat)
 | bad (num:Nat) (e:RdR)
def firstF:List ByteArray→List UInt8→Option (List Fld)
 | [],_=>none
 | f :: fs,r=>match readFs f.data.toList r 0 with
  | .ok l=>some l
  | _=>firstF fs r
theorem firstF_of {f:ByteArray} {fs:List ByteArray} {r:List UInt8} {l:List Fld} (h:readFs f.data.toList r 0=.ok l):firstF (f :: fs) r=some l:=by
 simp only [firstF]
 rw [h]
theorem firstF_no {f:ByteArray} {fs:List ByteArray} {r:List UInt8} (h:∀l,readFs f.data.toList r 0≠.ok l):firstF (f :: fs) r=firstF fs r:=by
 cases hr:readFs f.data.toList r 0 with
 | ok l=>exact absurd hr (h l)
 | no e j =>
  simp only [firstF,hr]
 | tail =>
  simp only [firstF,hr]
theorem firstF_get {fs:List ByteArray} {r:List UInt8} {l:List Fld} (h:firstF fs r=some l):∃f∈fs,readFs f.data.toList r 0=.ok l:=by
 induction fs with
 | nil=>cases h
 | cons f fs ih =>
  cases hr:readFs f.data.toList r 0 with
  | ok l2 =>
   rw [firstF_of hr] at h
   injection h with h
   subst h
   exact ⟨f,by simp,hr⟩
  | no e j =>
   rw [firstF_no (by intro l2 e2;rw [hr] at e2;cases e2)] at h
   obtain ⟨f2,h2,h3⟩:=ih h
   exact ⟨f2,by simp [h2],h3⟩
  | tail =>
   rw [firstF_no (by intro l2 e2;rw [hr] at e2;cases e2)] at h
   obtain ⟨f2,h2,h3⟩:=ih h
   exact ⟨f2,by simp [h2],h3⟩
def decS (p:List UInt8):DecR:=match p with
 | []=>.all 4
 | c :: r=>if 32768<(c :: r).length then .all 2 else match forms c.toNat with
  | []=>.all 6
  | f :: fs=>match firstF (f :: fs) r with
   | some l=>.ok c.toNat l
   | none=>.bad c.toNat (readFs f.data.toList r 0)
theorem decS_of {c:UInt8} {r:List UInt8} {l:List Fld} (hl:(c :: r).length≤32768) (h:firstF (forms c.toNat) r=some l):decS (c :: r)=.ok c.toNat l:=by
 simp only [decS]
 rw [if_neg (by omega)]
 split
 ·rename_i hf
  rw [hf] at h
  cases h
 ·rename_i f fs hf
  rw [hf] at h
  rw [h]
theorem decS_get {p:List UInt8} {num:Nat} {l:List Fld} (h:decS p=.ok num l):∃c r,p=c :: r∧num=c.toNat∧p.length≤32768∧firstF (forms num) r=some l:=by
 cases p with
 | nil=>cases h
 | cons c r =>
  simp only [decS] at h
  split at h
  ·cases h
  ·rename_i hl
   split at h
   ·cases h
   ·rename_i f fs hf
    split at h
    ·rename_i l2 hl2
     injection h with h1 h2
     subst h1 h2
     exact ⟨c,r,rfl,rfl,by omega,by rw [hf,hl2]⟩
    ·cases h
theorem forms_many (n:Int):(forms n).length≤1∨n=31∨n=50:=by
 by_cases h1:n=31
 ·exact .inr (.inl h1)
 ·by_cases h2:n=50
  ·exact .inr (.inr h2)
  ·left
   unfold forms
   rw [if_neg h1,if_neg h2]
   repeat' refine ite_ok (P:=fun l:List ByteArray=>l.length≤1) ?_ ?_
   all_goals decide
theorem forms_31:forms 31=[⟨#[116,116,116]⟩,⟨#[109,109]⟩]:=by decide +kernel
theorem forms_50:forms 50=[⟨#[115,115,115]⟩,⟨#[115,115,115,98,115,116]⟩,⟨#[115,115,115,98,115,116,116]⟩]:=by decide +kernel
theorem getF_text {k:Nat} (hk:k=115∨k=116) {s:List UInt8} (h:s.length<4294967296) (r:List UInt8):getF k (textL s++r)=.ok ⟨k,0,s,[]⟩ r:=by
 rw [getF_else _ (by omega) (by omega) (by omega) (by omega) (by omega) (by omega),gText_put h,Res.map_ok]
theorem getF_nil {k:Nat} (hk:k=115∨k=116∨k=98):getF k []=.no 4:=by
 rcases hk with rfl | rfl | rfl <;> rfl
theorem readFs_app {l:List Fld} {f:List UInt8} (hk:l.map (·.k)=f.map (·.toNat)) (h:∀x∈l,okF x∧fitF x) {r:List UInt8} (hr:r≠[]) (i:Nat):readFs f (putFs l++r) i=.tail:=by
 induction f generalizing l i with
 | nil =>
  have:l=[]:=by simpa using hk
  subst this
  simp only [readFs,putFs,List.map_nil,List.flatten_nil,List.nil_append]
  rw [if_neg hr]
 | cons c f ih =>
  cases l with
  | nil=>simp at hk
  | cons x l =>
   simp only [List.map_cons,List.cons.injEq] at hk
   have hx:=h x (by simp)
   have hg:=get_put hx.2 hx.1.1 (okF_put hx.1) (putFs l++r)
   rw [hk.1] at hg
   rw [putFs_cons,List.append_assoc,readFs_of hg,ih hk.2 (fun y hy=>h y (by simp [hy]))]
   rfl
theorem put_ne {x:Fld} (h:okF x):(putF x).2≠[]:=by
 obtain ⟨h1,h2⟩:=h
 unfold putF at h2 ⊢
 repeat' split at h2
 all_goals first | (simp only at h2;omega) | skip
 all_goals simp only [*,if_true,if_false,ne_eq,not_false_eq_true]
 all_goals first
  | (simp;done)
  | (simp [q4];done)
  | (simp [wholeL,q4];done)
  | (simp [textL,q4];done)
  | (simp [extsL,q4];done)
  | (intro e;simp_all;done)
  | (simp_all;done)
theorem putFs_app (l m:List Fld):putFs (l++m)=putFs l++putFs m:=by simp [putFs]
theorem first_put {n:Int} {l:List Fld} {f:ByteArray} (hf:f∈forms n) (hk:l.map (·.k)=f.data.toList.map (·.toNat)) (h:∀x∈l,okF x∧fitF x):firstF (forms n) (putFs l)=some l:=by
 rcases forms_many n with h1 | rfl | rfl
 ·generalize forms n=fs at hf h1
  match fs,hf,h1 with
  | [g],hf,_ =>
   simp only [List.mem_singleton] at hf
   subst hf
   exact firstF_of (readFs_put hk h 0)
  | [],hf,_=>simp at hf
 ·rw [forms_31] at hf ⊢
  simp only [List.mem_cons,List.not_mem_nil,or_false] at hf
  rcases hf with rfl | rfl
  ·exact firstF_of (readFs_put hk h 0)
  ·rw [firstF_no]
   ·exact firstF_of (readFs_put hk h 0)
   ·match l,hk,h with
    | [x,y],hk,h =>
     simp only [List.map_cons,List.map_nil,List.cons.injEq,and_true] at hk
     have hx:=h x (by simp)
     have hy:=h y (by simp)
     obtain ⟨kx,ky⟩:=hk
     have wx:(putF x).2=textL (signL x.s)∧(signL x.s).length<4294967296:=by
      have h2:=hx.1.2
      have h3:=hx.2.1
      have h4:=signL_len x.s
      unfold putF at h2 ⊢
      rw [if_neg (by rw [kx];decide),if_neg (by rw [kx];decide),if_pos (by rw [kx];rfl)] at h2 ⊢
      split at h2
      ·simp at h2
      ·rename_i ha
       rw [if_neg ha]
       exact ⟨whole_text (by simpa using ha),by omega⟩
     have wy:(putF y).2=textL (signL y.s)∧(signL y.s).length<4294967296:=by
      have h2:=hy.1.2
      have h3:=hy.2.1
      have h4:=signL_len y.s
      unfold putF at h2 ⊢
      rw [if_neg (by rw [ky];decide),if_neg (by rw [ky];decide),if_pos (by rw [ky];rfl)] at h2 ⊢
      split at h2
      ·simp at h2
      ·rename_i ha
       rw [if_neg ha]
       exact ⟨whole_text (by simpa using ha),by omega⟩
     intro l2 hl2
     rw [putFs_cons,putFs_cons,wx.1,wy.1,show putFs []=[] from rfl] at hl2
     have g1:getF (116:UInt8).toNat (textL (signL x.s)++(textL (signL y.s)++[]))=_:=getF_text (.inr rfl) wx.2 _
     have g2:getF (116:UInt8).toNat (textL (signL y.s)++[])=_:=getF_text (.inr rfl) wy.2 _
     have g3:getF (116:UInt8).toNat []=_:=getF_nil (.inr (.inl rfl))
     have hh:readFs [116,116,116] (textL (signL x.s)++(textL (signL y.s)++[])) 0=.no 4 2:=by
      rw [readFs_of g1,readFs_of g2,readFs_no g3]
      rfl
     rw [show (⟨#[116,116,116]⟩:ByteArray).data.toList=[116,116,116] from rfl,hh] at hl2
     cases hl2
    | [],hk,_=>simp at hk
    | [_],hk,_=>simp at hk
    | _ :: _ :: _ :: _,hk,_=>simp at hk
 ·rw [forms_50] at hf ⊢
  have cut:∀(g:List UInt8) (m:Nat),l.map (·.k)=(g++(f.data.toList.drop m)).map (·.toNat)→g.length=m→g.length<l.length→∀l2,readFs g (putFs l) 0≠.ok l2:=by
   intro g m hg hgm hlt l2 hl2
   have hsp:l=l.take m++l.drop m:=(List.take_append_drop m l).symm
   have hk1:(l.take m).map (·.k)=g.map (·.toNat):=by
    rw [List.map_take,hg,List.map_append,List.take_append_of_le_length (by simp [hgm]),List.take_of_length_le (by simp [hgm])]
   have hne:putFs (l.drop m)≠[]:=by
    have hd:l.drop m≠[]:=by
     intro e
     have:=congrArg List.length e
     simp at this
     omega
    obtain ⟨y,q,hq⟩:=List.exists_cons_of_ne_nil hd
    have hy:y∈l:=List.mem_of_mem_drop (by rw [hq];simp)
    rw [hq,putFs_cons]
    intro e
    exact put_ne (h y hy).1 (List.append_eq_nil_iff.1 e).1
   rw [hsp,putFs_app] at hl2
   rw [readFs_app hk1 (fun x hx=>h x (List.mem_of_mem_take hx)) hne 0] at hl2
   cases hl2
  simp only [List.mem_cons,List.not_mem_nil,or_false] at hf
  have hlen:=congrArg List.length hk
  simp only [List.length_map] at hlen
  rcases hf with rfl | rfl | rfl
  ·exact firstF_of (readFs_put hk h 0)
  ·rw [firstF_no (cut [115,115,115] 3 hk rfl (by rw [hlen];decide))]
   exact firstF_of (readFs_put hk h 0)
  ·rw [firstF_no (cut [115,115,115] 3 hk rfl (by rw [hlen];decide)),firstF_no (cut [115,115,115,98,115,116] 6 hk rfl (by rw [hlen];decide))]
   exact firstF_of (readFs_put hk h 0)
theorem fit_get {n:Int} {m:Nat} (h:(fit n m).2=true):(fit n m).1∈forms n∧(fit n m).1.size=m:=by
 unfold fit at h ⊢
 split at h
 ·rename_i s hs
  have h1:=List.mem_of_find?_eq_some hs
  have h2:=List.find?_some hs
  simp only [beq_iff_eq] at h2
  exact ⟨h1,show s.size=m by omega⟩
 ·cases h
theorem forms_num {n:Int} (h:forms n≠[]):1≤n∧n≤60:=by
 by_cases hn:1≤n∧n≤60
 ·exact hn
 ·exfalso
  apply h
  unfold forms
  repeat rw [if_neg (by omega)]
theorem dec_enc {n:Int} {l:List Fld} {s:List UInt8} (hl:∀x∈l,fitF x) (h:encS n l=.ok s):decS s=.ok n.toNat l∧1≤n∧n≤60∧1≤s.length∧s.length≤32768:=by
 unfold encS at h
 split at h
 ·rename_i hf
  obtain ⟨h1,h2⟩:=fit_get hf
  have hn:=forms_num (n:=n) (by intro e;rw [e] at h1;simp at h1)
  obtain ⟨e1,e2,e3,e4⟩:=encGo_get (h2.symm.trans (show (fit n l.length).1.size=(fit n l.length).1.data.toList.length from rfl)) h
  have hc:((UInt8.ofNat n.toNat).toNat:Nat)=n.toNat:=by
   rw [UInt8.toNat_ofNat']
   omega
  have hs:s.length≤32768:=by
   rcases e4 with e4 | e4
   ·exact e4
   ·rw [e4];simp
  have hp:=first_put h1 e1 (fun x hx=>⟨e2 x hx,hl x hx⟩)
  subst e3
  refine ⟨?_,hn.1,hn.2,by simp,hs⟩
  rw [List.singleton_append] at hs ⊢
  have:=decS_of (c:=UInt8.ofNat n.toNat) (r:=putFs l) hs (by rw [hc,show ((n.toNat:Nat):Int)=n from by omega];exact hp)
  rw [this,hc]
 ·cases h
theorem enc_dec {p:List UInt8} {n:Nat} {l:List Fld} (h:decS p=.ok n l):encS n l=.ok p∧p.length≤32768:=by
 obtain ⟨c,r,rfl,rfl,h3,h4⟩:=decS_get h
 obtain ⟨f,hf,hr⟩:=firstF_get h4
 obtain ⟨e1,e2,e3⟩:=readFs_get hr
 have hlen:=congrArg List.length e1
 simp only [List.length_map] at hlen
 obtain ⟨i,hi,hfi⟩:=List.getElem_of_mem hf
 have hfit:=fit_own (c.toNat:Int) hi
 rw [hfi] at hfit
 have hsz:(l.length:Int)=(f.size:Int):=by rw [hlen];rfl
 refine ⟨?_,h3⟩
 unfold encS
 rw [hsz,hfit,if_pos rfl,encGo_ok e1 e2]
 ·rw [e3]
  simp
 ·rw [←e3]
  simpa using h3
end Go.Proofs.YtnhekaepgpbijaaGreatDoor

namespace Go.Proofs.YtnhekaepgpbijaaGreatDoor
open Go.ChangeShapes Go.WideShapes Go.ChangeAt Go.RowKit
open Go.ChangeMaps (open_string shut_string)
theorem own:ownKnob Tryz.prog.godebug=none:=by kernel_rfl
theorem laidOut:laidOutB Tryz.prog=true:=by kernel_rfl

section
variable {H : Type} {enc : TypeId × Value → H} {P : Program}
theorem trodAll_below {W W':World} (hl:laidOutB P=true) (hb:Below W.heap.size W W'):∀(ts:List TypeId) (vs:List Value) (ds:List (DataW H)) (ps:List MemPlace),
  ts.all (fun t=>P.readableRec t && decide (t<P.types.size))=true→DataW.TrodAll enc P W 0 (fun _=>true) true ts vs ds ps →
  DataW.TrodAll enc P W' 0 (fun b=>decide (b<W.heap.size)) true ts vs ds ps:=by
 intro ts
 induction ts with
 | nil =>
  intro vs ds ps _ h
  obtain ⟨rfl,rfl,rfl⟩:=trodAll_nil h
  exact trodAll_mk0
 | cons t ts ih =>
  intro vs ds ps hr h
  obtain ⟨v,vs',d,ds',p,q,rfl,rfl,rfl,h0,h1⟩:=trodAll_cons h
  simp only [List.all_cons,Bool.and_eq_true,decide_eq_true_eq] at hr
  have hlt:∀x∈p,x.block<W.heap.size:=by
   obtain ⟨m,hm⟩:=h0
   exact DataW.trod_lt m _ _ _ hm
  exact trodAll_cons_mk (Below.trod hl hr.1.1 hr.1.2 h0 hb hlt) (ih _ _ _ hr.2 h1)

theorem law_post {f:Func} {s:ChangeSpec} {W W':World} {args:Array Value} {ds gs:List (DataW H)} {before:List MemPlace} (tb:TypeId) (hl:laidOutB P=true)
  (hr:f.params.toList.all (fun t=>P.readableRec t && decide (t<P.types.size))=true) (hres:f.resultTypes=#[tb]) (htb:P.underlying tb=some .bool) (hv:s.vars=[])
  (hW:DataW.Whole enc P f.params.toList s.vars false W args.toList ds gs before)
  (hs:∀ds':List (DataW H),ds'.length=ds.length→ds'=ds→s.fn H ds'={ results:=[.lit (.bool true)],args:=ds' })
  (bel:Below W.heap.size W W'):s.post enc P f false true false false W args (.bool true) W':=by
 have hW':=hW
 obtain ⟨p,q,hA,hV,rfl,hfz,hnd⟩:=hW
 have hgs:gs=[]∧q=[]:=by
  rw [hv] at hV
  exact trodVars_none hV
 obtain ⟨rfl,rfl⟩:=hgs
 have e:=hs ds rfl rfl
 refine ⟨ds,[],_,[],p,[],hW',?_,?_,?_,bel.frame _,fun h=>by cases h⟩
 ·rw [List.append_nil,e,hres]
  exact trodAll_mk1 (shut_bool htb _)
 ·rw [List.append_nil,e]
  exact trodAll_below hl bel _ _ _ _ hr hA
 ·rw [List.append_nil,e,hv]
  rfl

end
end Go.Proofs.YtnhekaepgpbijaaGreatDoor

namespace Go.Proofs.YtnhekaepgpbijaaGreatDoor
open Go.ChangeShapes Go.WideShapes Go.ChangeAt Go.RowKit
inductive Shp where
 | b
 | i (k:IntKind)
 | s
 | sl (l:List Shp)

mutual
def Shp.ok (w:World):Shp→Value→Prop
 | .b,v=>∃x,v=.bool x
 | .i k,v=>∃n,v=.int k n∧(Lit.int k n).wf=true
 | .s,v=>∃s:ByteArray,v=.string s∧s.size≤maxLen
 | .sl l,v=>∃A n c,v=.slice A n c∧n≤c∧c≤maxLen∧∀j,j<n→∃ad us,A=some ad∧(∀i u,us[i]?=some u→w.cell? (ad.add (j*l.length+i))=some u)∧Shp.oks w l us
def Shp.oks (w:World):List Shp→List Value→Prop
 | [],[]=>True
 | a :: l,v :: vs=>Shp.ok w a v∧Shp.oks w l vs
 | _,_=>False
end
def Shp.zero:Shp→Value
 | .b=>.bool false
 | .i k=>.int k 0
 | .s=>.string ByteArray.empty
 | .sl _=>.slice none 0 0
theorem oks_len {w:World}:∀{l:List Shp} {us:List Value},Shp.oks w l us→us.length=l.length
 | [],[],_=>rfl
 | [],_ :: _,h=>by simp [Shp.oks] at h
 | _ :: _,[],h=>by simp [Shp.oks] at h
 | _ :: l,_ :: us,h=>by
  simp only [Shp.oks] at h
  simp [oks_len h.2]
theorem oks_append {w:World}:∀{l m:List Shp} {us vs:List Value},Shp.oks w l us→Shp.oks w m vs→Shp.oks w (l++m) (us++vs)
 | [],_,[],_,_,h=>h
 | [],_,_ :: _,_,h,_=>by simp [Shp.oks] at h
 | _ :: _,_,[],_,h,_=>by simp [Shp.oks] at h
 | _ :: l,m,_ :: us,vs,h,h'=>by
  simp only [Shp.oks,List.cons_append] at h ⊢
  exact ⟨h.1,oks_append h.2 h'⟩

def catS:List (Nat × List Shp)→Nat→Option (List Shp)
 | [],_=>some []
 | (o,l) :: r,p=>if o=p then (catS r (p+l.length)).map (l++·) else none
def shapes (P:Program):Nat→TypeId→Option (List Shp)
 | 0,_=>none
 | n+1,t =>
  match P.underlying t with
  | some .bool=>some [.b]
  | some (.int k)=>some [.i k]
  | some .string=>some [.s]
  | some (.slice e)=>(shapes P n e).bind fun l=>if l.length=P.cellsOf e then some [.sl l] else none
  | some (.struct fs)=>(fs.toList.mapM fun f=>(shapes P n f.type).bind fun l=>if l.length=P.cellsOf f.type then some (f.offset,l) else none).bind fun ls=>(catS ls 0).bind fun l=>if l.length=P.cellsOf t then some l else none
  | some (.array m e)=>(shapes P n e).bind fun l=>if l.length=P.cellsOf e∧m*l.length=P.cellsOf t then some (List.replicate m l).flatten else none
  | _=>none

theorem catS_oks {w:World} {cs:List Value}:∀(ls:List (Nat × List Shp)) (p:Nat) (l:List Shp),catS ls p=some l→(∀q∈ls,Shp.oks w q.2 ((cs.drop q.1).take q.2.length))→p+l.length=cs.length→Shp.oks w l (cs.drop p):=by
 intro ls
 induction ls with
 | nil =>
  intro p l h _ hl
  simp only [catS,Option.some.injEq] at h
  subst h
  rw [List.drop_eq_nil_of_le (by simp at hl;omega)]
  simp [Shp.oks]
 | cons q r ih =>
  obtain ⟨o,l0⟩:=q
  intro p l h hq hl
  simp only [catS] at h
  split at h
  ·rename_i ho
   subst ho
   simp only [Option.map_eq_some_iff] at h
   obtain ⟨l1,h1,rfl⟩:=h
   have h0:=hq (o,l0) (by simp)
   have h2:=ih _ _ h1 (fun q hm=>hq q (by simp [hm])) (by simp at hl;omega)
   have:=oks_append h0 h2
   rwa [show (cs.drop o).take l0.length++cs.drop (o+l0.length)=cs.drop o by rw [←List.drop_drop];exact List.take_append_drop _ _] at this
  ·cases h
theorem rep_oks {w:World} {l:List Shp}:∀(m:Nat) (cs:List Value),cs.length=m*l.length→(∀i,i<m→Shp.oks w l ((cs.drop (i*l.length)).take l.length))→Shp.oks w (List.replicate m l).flatten cs:=by
 intro m
 induction m with
 | zero =>
  intro cs hl _
  obtain rfl:=List.eq_nil_of_length_eq_zero (by simpa using hl)
  simp [Shp.oks]
 | succ m ih =>
  intro cs hl h
  rw [List.replicate_succ,List.flatten_cons]
  have h0:=h 0 (by omega)
  rw [Nat.zero_mul,List.drop_zero] at h0
  have h1:=ih (cs.drop l.length) (by rw [List.length_drop,hl,Nat.succ_mul];omega) (fun i hi=>by
   have:=h (i+1) (by omega)
   rwa [List.drop_drop,show l.length+i*l.length=(i+1)*l.length by rw [Nat.succ_mul];omega])
  have:=oks_append h0 h1
  rwa [List.take_append_drop] at this
theorem mapM_mem {α β:Type} {f:α→Option β}:∀{l:List α} {r:List β},l.mapM f=some r→∀y∈r,∃x,x∈l∧f x=some y:=by
 intro l
 induction l with
 | nil=>intro r h;simp at h;subst h;simp
 | cons x xs ih =>
  intro r h y hy
  rw [List.mapM_cons] at h
  cases hx:f x with
  | none=>simp [hx] at h
  | some z =>
   cases hxs:xs.mapM f with
   | none=>simp [hx,hxs] at h
   | some ys =>
    simp [hx,hxs] at h
    subst h
    rcases List.mem_cons.1 hy with rfl | hy
    ·exact ⟨x,by simp,hx⟩
    ·obtain ⟨x',h1,h2⟩:=ih hxs y hy
     exact ⟨x',by simp [h1],h2⟩
theorem cells_some {w:World} {base:Nat} {a:Addr} {n:Nat} {us:List Value} (h:w.cells? base a n=some us):us.length=n∧∀i u,us[i]?=some u→w.cell? (a.add i)=some u:=by
 unfold World.cells? at h
 split at h
 ·have hl:us.length=n:=by simpa using mapM_some_length h
  refine ⟨hl,fun i u hu=>?_⟩
  have hi:i<n:=by
   rcases Nat.lt_or_ge i us.length with hlt | hge
   ·omega
   ·rw [List.getElem?_eq_none hge] at hu;cases hu
  have:=mapM_some_get h i i (by simp [hi])
  rw [this,hu]
 ·cases h

section
variable {H : Type} {enc : TypeId × Value → H} {P : Program} {w : World} {base : Nat} {spare : Nat → Bool} {held : Bool}
theorem shapes_oks:∀(n:Nat) (t:TypeId) (l:List Shp),shapes P n t=some l→∀(fuel:Nat) (cs:List Value) (x:DataW H × List MemPlace),DataW.trod enc P w base spare held fuel t cs=some x→Shp.oks w l cs:=by
 intro n
 induction n with
 | zero=>intro t l h;simp [shapes] at h
 | succ n ih =>
  intro t l h fuel cs x hx
  unfold shapes at h
  split at h
  ·rename_i hu
   simp only [Option.some.injEq] at h
   subst h
   obtain ⟨b,rfl,_⟩:=DataW.trod_bool hu hx
   simp [Shp.oks,Shp.ok]
  ·rename_i k hu
   simp only [Option.some.injEq] at h
   subst h
   obtain ⟨b,rfl,_,hw⟩:=DataW.trod_int hu hx
   simp only [Shp.oks,Shp.ok]
   exact ⟨⟨_,rfl,hw⟩,trivial⟩
  ·rename_i hu
   simp only [Option.some.injEq] at h
   subst h
   obtain ⟨b,rfl,_,hw⟩:=DataW.trod_string hu hx
   simp only [Shp.oks,Shp.ok]
   exact ⟨⟨_,rfl,hw⟩,trivial⟩
  ·rename_i e hu
   simp only [Option.bind_eq_some_iff] at h
   obtain ⟨le,hle,h⟩:=h
   split at h
   ·rename_i hlen
    simp only [Option.some.injEq] at h
    subst h
    rcases DataW.trod_slice hu hx with ⟨rfl,_⟩ | ⟨a,len,cap,elems,rest,m,_,rfl,_,_,hlc,hcm,hel,hi,_⟩
    ·simp only [Shp.oks,Shp.ok]
     exact ⟨⟨none,0,0,rfl,Nat.le_refl _,Nat.zero_le _,fun j hj=>absurd hj (Nat.not_lt_zero _)⟩,trivial⟩
    ·simp only [Shp.oks,Shp.ok]
     refine ⟨⟨some a,len,cap,rfl,hlc,hcm,fun j hj=>?_⟩,trivial⟩
     have h1:=hi j hj
     rw [List.getElem?_eq_getElem (by omega),Option.bind_eq_some_iff] at h1
     obtain ⟨us,hus,h2⟩:=h1
     obtain ⟨_,hc⟩:=cells_some hus
     refine ⟨a,us,rfl,fun i u hu=>?_,ih _ _ hle _ _ _ h2⟩
     rw [hlen,← add_of_add]
     exact hc i u hu
   ·cases h
  ·rename_i fs hu
   simp only [Option.bind_eq_some_iff] at h
   obtain ⟨ls,hls,l',hcat,h⟩:=h
   split at h
   ·rename_i hlen
    simp only [Option.some.injEq] at h
    subst h
    obtain ⟨xs,m,_,_,hcl,hxl,hf⟩:=DataW.trod_struct hu hx
    have:=catS_oks (w:=w) (cs:=cs) ls 0 l' hcat (fun q hq=>?_) (by omega)
    ·exact this
    ·obtain ⟨f,hfm,hfq⟩:=mapM_mem hls q hq
     simp only [Option.bind_eq_some_iff] at hfq
     obtain ⟨lf,hlf,hfq⟩:=hfq
     split at hfq
     ·rename_i hlf2
      simp only [Option.some.injEq] at hfq
      subst hfq
      obtain ⟨i,hi,hfi⟩:=List.getElem_of_mem hfm
      have h1:=hf i f (by rw [←hfi];simp)
      rw [List.getElem?_eq_getElem (by simp at hi;omega)] at h1
      have h2:=ih _ _ hlf _ _ _ h1
      rw [←hlf2] at h2
      exact h2
     ·cases hfq
   ·cases h
  ·rename_i m e hu
   simp only [Option.bind_eq_some_iff] at h
   obtain ⟨le,hle,h⟩:=h
   split at h
   ·rename_i hlen
    simp only [Option.some.injEq] at h
    subst h
    obtain ⟨xs,m',_,_,hcl,hxl,hf⟩:=Go.DataW.trod_array hu hx
    refine rep_oks m cs (by omega) fun i hi=>?_
    have h1:=hf i hi
    rw [List.getElem?_eq_getElem (by omega),← hlen.1] at h1
    exact ih _ _ hle _ _ _ h1
   ·cases h
  ·cases h
theorem open_struct {W:World} {r:Reach} {b0:Nat} {t:TypeId} {fs:Array Field} {v:Value} {d:DataW H} {ps:List MemPlace} (n:Nat) {l:List Shp} (ht:P.underlying t=some (.struct fs)) (hs:shapes P n t=some l)
  (hv:Value.okWide P W r b0 t v) (h:DataW.Trod enc P W base spare held t v d ps):∃cs:List Value,v=.agg cs.toArray∧Shp.oks W l cs:=by
 simp only [Value.okWide,ht] at hv
 obtain ⟨cs,rfl,_⟩:=hv
 obtain ⟨fuel,hf⟩:=h
 obtain ⟨cs⟩:=cs
 exact ⟨cs,rfl,shapes_oks n t l hs _ _ _ hf⟩
theorem open_slice {W:World} {r:Reach} {b0:Nat} {t e:TypeId} {v:Value} {d:DataW H} {ps:List MemPlace} (n:Nat) {l:List Shp} (ht:P.underlying t=some (.slice e)) (hs:shapes P n t=some [.sl l])
  (hv:Value.okWide P W r b0 t v) (h:DataW.Trod enc P W base spare held t v d ps):Shp.ok W (.sl l) v:=by
 obtain ⟨a0,l0,c0,rfl⟩:=okWide_slice ht hv
 obtain ⟨fuel,hf⟩:=h
 have h:=shapes_oks n t _ hs _ _ _ hf
 simp only [Value.cells,Shp.oks] at h
 exact h.1
end

theorem cell_ltO {w:World} {a:Addr} {v:Value} (h:w.cell? a=some v):a.block<w.heap.size:=World.block_lt_of_cell? w _ h
section
variable {w : World}
theorem rows_of {α:Type} [Inhabited α] {l:List Shp} {v:Value} (R:α→List Value→Prop) (h:Shp.ok w (.sl l) v) (hR:∀us,Shp.oks w l us→∃a,R a us) :
  ∃A c,∃xs:List α,v=.slice A xs.length c∧xs.length≤c∧c≤maxLen∧∀j (hj:j<xs.length),∃ad us,A=some ad∧(∀i u,us[i]?=some u→w.cell? (ad.add (j*l.length+i))=some u)∧R xs[j] us:=by
 simp only [Shp.ok] at h
 obtain ⟨A,n,c,rfl,hn,hc,h⟩:=h
 have hall:∀j,∃a:α,j<n→∃ad us,A=some ad∧(∀i u,us[i]?=some u→w.cell? (ad.add (j*l.length+i))=some u)∧R a us:=by
  intro j
  by_cases hj:j<n
  ·obtain ⟨ad,us,e,hc,ho⟩:=h j hj
   obtain ⟨a,ha⟩:=hR us ho
   exact ⟨a,fun _=>⟨ad,us,e,hc,ha⟩⟩
  ·exact ⟨default,fun h=>absurd h hj⟩
 obtain ⟨f,hf⟩:=Classical.axiomOfChoice hall
 have hl:((List.range n).map f).length=n:=by simp
 refine ⟨A,c,(List.range n).map f,by rw [hl],by omega,hc,fun j hj=>?_⟩
 obtain ⟨ad,us,e,h1,h2⟩:=hf j (by omega)
 exact ⟨ad,us,e,h1,by simpa using h2⟩
instance:Inhabited {s:ByteArray // s.size≤maxLen}:=⟨⟨⟨#[]⟩,Nat.zero_le _⟩⟩
theorem strs_of {v:Value} (h:Shp.ok w (.sl [.s]) v):∃ss:List ByteArray,Strs 0 w v ss∧ss.length≤maxLen∧∀s∈ss,s.size≤maxLen:=by
 obtain ⟨A,c,xs,rfl,h1,h2,h⟩:=rows_of (α:={s:ByteArray // s.size≤maxLen}) (fun a us=>us=[.string a.1]) h (fun us ho=>by
  match us,ho with
  | [u],ho =>
   simp only [Shp.oks,Shp.ok,and_true] at ho
   obtain ⟨s,rfl,hs⟩:=ho
   exact ⟨⟨s,hs⟩,rfl⟩
  | [],ho=>simp [Shp.oks] at ho
  | _ :: _ :: _,ho=>simp [Shp.oks] at ho)
 refine ⟨xs.map (·.1),⟨A,c,by simp,?_⟩,by simp;omega,fun s hs=>by obtain ⟨y,_,rfl⟩:=List.mem_map.1 hs;exact y.2⟩
 refine ⟨by simp,fun hn=>?_⟩
 simp only [List.length_map] at hn
 obtain ⟨ad,us,e,hc,hu⟩:=h 0 hn
 refine ⟨ad,e,Nat.zero_le _,?_,fun j u hj=>?_⟩
 ·subst hu
  have:=cell_ltO (hc 0 _ rfl)
  rwa [block_of_add] at this
 ·have hjl:j<xs.length:=by
   rcases Nat.lt_or_ge j xs.length with hlt | hge
   ·exact hlt
   ·rw [List.getElem?_eq_none (by simpa using hge)] at hj;cases hj
  obtain ⟨ad',us',e',hc',hu'⟩:=h j hjl
  rw [e] at e'
  cases e'
  subst hu'
  have:=hc' 0 _ rfl
  simp only [List.length_singleton,Nat.mul_one,Nat.add_zero] at this
  rw [this]
  simpa [hjl] using hj
end
end Go.Proofs.YtnhekaepgpbijaaGreatDoor

namespace Go.Proofs.YtnhekaepgpbijaaGreatDoor
open Go.RowKit Go.ChangeShapes Go.WideShapes Go.ChangeAt
def Txc (w:World) (v:Value) (ls:List (List UInt8)):Prop:=Txs w v ls∧∃A c,v=.slice A ls.length c∧ls.length≤c
theorem Txc.below {w w':World} {v:Value} {ls:List (List UInt8)} (h:Txc w v ls) (hb:Below w.heap.size w w'):Txc w' v ls:=⟨h.1.below hb,h.2⟩
theorem txc_nil (w:World) (c:Nat):Txc w (.slice none 0 c) []:=⟨txs_nil w c,none,c,rfl,Nat.zero_le _⟩
structure Flds (w:World) (A:Option Addr) (l:List Fld):Prop where
 at_:∀i x,l[i]?=some x→∃ad lv,A=some ad∧ad.block<w.heap.size∧w.cell? (ad.add (i*4))=some (.int .u8 x.k)∧w.cell? ⟨(ad.add (i*4)).block,(ad.add (i*4)).off+1,none⟩=some (.int .i64 x.n)∧w.cell? ⟨(ad.add (i*4)).block,(ad.add (i*4)).off+2,none⟩=some (.string (bs x.s))∧w.cell? ⟨(ad.add (i*4)).block,(ad.add (i*4)).off+3,none⟩=some lv∧Txc w lv x.l∧x.k<256
theorem Flds.below {w w':World} {A:Option Addr} {l:List Fld} (h:Flds w A l) (hb:Below w.heap.size w w'):Flds w' A l:=by
 refine ⟨fun i x hx=>?_⟩
 obtain ⟨ad,lv,e,h1,c0,c1,c2,c3,ht,hk⟩:=h.at_ i x hx
 have key:∀p:Addr,p.block=ad.block→∀v,w.cell? p=some v→w'.cell? p=some v:=fun p hp v hv=>(hb.cell (p:=p) (by rw [hp];exact h1)).trans hv
 exact ⟨ad,lv,e,Nat.lt_of_lt_of_le h1 hb.size,key _ (block_of_add _ _) _ c0,key _ (by rw [block_of_add]) _ c1,key _ (by rw [block_of_add]) _ c2,key _ (by rw [block_of_add]) _ c3,ht.below hb,hk⟩
structure FldFit (x:Fld):Prop where
 k:x.k<256
 n:(Lit.int .i64 x.n).wf=true
 s:x.s.length≤maxLen
 ll:x.l.length≤maxLen
 l:∀y∈x.l,y.length≤maxLen
theorem txs_of {w:World} {v:Value} (h:Shp.ok w (.sl [.s]) v):∃ls:List (List UInt8),Txc w v ls∧ls.length≤maxLen∧∀y∈ls,y.length≤maxLen:=by
 have hcap:∃A n c,v=.slice A n c∧n≤c:=by
  simp only [Shp.ok] at h
  obtain ⟨A,n,c,rfl,hn,_⟩:=h
  exact ⟨A,n,c,rfl,hn⟩
 obtain ⟨ss,h1,h2,h3⟩:=strs_of h
 refine ⟨ss.map (·.data.toList),⟨?_,?_⟩,by simpa using h2,?_⟩
 ·unfold Txs
  rw [List.map_map]
  have:ss.map (bs ∘ fun s:ByteArray=>s.data.toList)=ss:=by
   conv=>rhs;rw [←List.map_id ss]
   rfl
  rw [this]
  exact h1
 ·obtain ⟨A,c,e,_⟩:=h1
  obtain ⟨A',n',c',e',hn'⟩:=hcap
  rw [e] at e'
  injection e' with e1 e2 e3
  exact ⟨A,c,by rw [e,List.length_map],by rw [List.length_map];omega⟩
 ·intro y hy
  obtain ⟨s,hs,rfl⟩:=List.mem_map.1 hy
  exact h3 s hs
instance:Inhabited Fld:=⟨⟨0,0,[],[]⟩⟩
end Go.Proofs.YtnhekaepgpbijaaGreatDoor
