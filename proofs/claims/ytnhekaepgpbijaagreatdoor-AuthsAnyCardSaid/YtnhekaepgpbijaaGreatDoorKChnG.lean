/- Several of my texts in one: PureA, RefA, SignP, AsN, Chn. -/
import Derived.Test.YtnhekaepgpbijaaGreatDoorKAli
import GoSem.Op.String
import Derived.Lib.ItoaNum
import Derived.Test.YtnhekaepgpbijaaGreatDoorKAsG
import Derived.Lib.QuietBelow
import Derived.Deep.RegionWith
import Derived.Deep.RegionHeld3
import Derived.Deep.DeepCutAuto
set_option linter.unusedVariables false
set_option linter.unusedSimpArgs false
set_option maxHeartbeats 40000000
set_option maxRecDepth 100000
namespace Go.Proofs.YtnhekaepgpbijaaGreatDoor
open Go.Proofs.Tryz
variable {m:Int} {g i j o x:Nat} {p_:Prop} {q:List UInt8} {alg s':ByteArray} {js:List Nat} {ns:List Int}
inductive Tm where
 | mk (k a b:Nat) (s:ByteArray) (l:List Tm)
def Tm.k:Tm->Nat | .mk k _ _ _ _=>k
def Tm.a:Tm->Nat | .mk _ a _ _ _=>a
def Tm.b:Tm->Nat | .mk _ _ b _ _=>b
def Tm.s:Tm->ByteArray | .mk _ _ _ s _=>s
def Tm.l:Tm->List Tm | .mk _ _ _ _ l=>l

def q4 (n:Nat):List UInt8:=[UInt8.ofNat (n / 16777216),UInt8.ofNat (n / 65536),UInt8.ofNat (n / 256),UInt8.ofNat n]
theorem bM (n:Nat):(q4 n).length=4:=rfl
def n4:List UInt8->Nat
 | x :: y :: z :: u :: _=>x.toNat*16777216+y.toNat*65536+z.toNat*256+u.toNat
 | _=>0
theorem zf {n:Nat} (h:n<4294967296) (r:List UInt8):n4 (q4 n++r)=n:=by
 simp only [q4,n4,YD,UInt8.toNat_ofNat'];omega
theorem TF (x y z u:UInt8) (r:List UInt8):q4 (n4 (x :: y :: z :: u :: r))=[x,y,z,u]:=by
 have g:=x.toNat_lt;have h:=y.toNat_lt;have j:=z.toNat_lt;have o:=u.toNat_lt;simp only [q4,n4,List.cons.injEq,and_true];refine ⟨?_,?_,?_,?_⟩ <;> (apply UInt8.toNat_inj.1;simp only [UInt8.toNat_ofNat'];omega)
theorem jG (l:List UInt8):n4 l<4294967296:=by
 unfold n4
 split
 ·rename_i x y z u _
  have g:=x.toNat_lt;have h:=y.toNat_lt;have j:=z.toNat_lt;have o:=u.toNat_lt;omega
 ·omega
theorem jm {n m:Nat} {r g:List UInt8} (q:n<4294967296) (o:m<4294967296) (h:q4 n++r=q4 m++g):n=m/\r=g:=by
 have j:=zf q r;rw [h,zf o g] at j;subst j;exact ⟨rfl,List.append_cancel_left h⟩

def mid (k a b:Nat) (s:List UInt8) (n:Nat):List UInt8 :=
 match k with
 | 1=>q4 s.length++s
 | 2=>q4 a++q4 b
 | 3=>q4 a
 | 5=>q4 s.length++(s++q4 n)
 | 6=>q4 s.length++s
 | 8=>[UInt8.ofNat b]
 | 9=>q4 b
 | 10=>q4 n
 | _=>[]
def head (k a b:Nat) (s:List UInt8) (n:Nat):List UInt8:=UInt8.ofNat (240+k) :: mid k a b s n

mutual
def enc:Tm->List UInt8
 | .mk k a b s l=>head k a b s.data.toList l.length++encs l
def encs:List Tm->List UInt8
 | []=>[]
 | t :: l=>enc t++encs l
end
theorem qc (t:Tm):enc t≠[]:=by
 cases t
 simp [enc,head]
theorem iQ (l m:List Tm):encs (l++m)=encs l++encs m:=by
 induction l with
 | nil=>simp [encs]
 | cons t l ih=>simp [encs,ih]

def tle (x y:Tm):Prop:=x.a<y.a\/x.a=y.a/\x.b<=y.b
def hd (k a b:Nat) (s:ByteArray) (n:Nat):Prop :=
 match k with
 | 1=>a=0/\b=0/\n=0/\s.size<4294967296
 | 2=>a<2147483648/\b<2147483648/\n=0/\s=⟨#[]⟩
 | 3=>a<2147483648/\b=0/\n=0/\s=⟨#[]⟩
 | 4=>a=0/\b=0/\n=1/\s=⟨#[]⟩
 | 5=>a=0/\b=0/\n<=8/\1<=s.size/\s.size<=2100
 | 6=>a=0/\b=0/\n=2/\1<=s.size/\s.size<=64
 | 7=>a=0/\b=0/\n=1/\s=⟨#[]⟩
 | 8=>a=0/\b<256/\n=3/\s=⟨#[]⟩
 | 9=>a=0/\b<4294967296/\n=2/\s=⟨#[]⟩
 | 10=>a=0/\b=0/\n<=32/\s=⟨#[]⟩
 | _=>False
def kids (k:Nat) (l:List Tm):Prop :=
 match k with
 | 4=>∀x∈l.head?,x.k=3
 | 5=>(∀x∈l,x.k=2)/\l.Pairwise tle
 | 6=>∀x∈l.head?,x.k=3
 | _=>True
mutual
def good:Tm->Prop
 | .mk k a b s l=>hd k a b s l.length/\kids k l/\eH l
def eH:List Tm->Prop
 | []=>True
 | t :: l=>good t/\eH l
end
theorem gT (l:List Tm):eH l↔∀t∈l,good t:=by
 induction l with
 | nil=>simp [eH]
 | cons t l ih=>simp [eH,ih]
theorem CW {k a b n:Nat} {s:ByteArray} (h:hd k a b s n):1<=k/\k<=10:=by
 unfold hd at h
 split at h <;> first | omega | exact h.elim
theorem Sq {k:Nat} (j:k<=10) (o:g<=10) (h:UInt8.ofNat (240+k)=UInt8.ofNat (240+g)):k=g:=by
 have:=Ye UInt8.toNat h;simp only [UInt8.toNat_ofNat'] at this;omega
theorem toList_inj {s t:ByteArray} (h:s.data.toList=t.data.toList):s=t:=by
 obtain ⟨s⟩:=s;obtain ⟨t⟩:=t;congr 1;exact Array.toList_inj.1 h
theorem lT {s t:List UInt8} {r g:List UInt8} (hs:s.length<4294967296) (q:t.length<4294967296) (h:q4 s.length++(s++r)=q4 t.length++(t++g)):s=t/\r=g:=by
 obtain ⟨j,o⟩:=jm hs q h;exact List.append_inj o j
theorem aC (s:ByteArray):s.data.toList.length=s.size:=rfl
theorem zzd4e (h_:p_:=by
 exact ⟨by omega,by omega,by rw [h.2.2.2,h'.2.2.2],by omega,h2⟩):p_:=h_
theorem zzfa7 (h_:p_:=by
 obtain ⟨e1,e2⟩:=jm (by omega) (by omega) h2
 exact ⟨e1,by omega,by rw [h.2.2.2,h'.2.2.2],by omega,e2⟩):p_:=h_
theorem zz605 (h_:p_:=by
 obtain ⟨e1,e2⟩:=jm (by omega) (by omega) h2
 exact ⟨by omega,e1,by rw [h.2.2.2,h'.2.2.2],by omega,e2⟩):p_:=h_
theorem zz1e5 (h_:p_:=by
 obtain ⟨e1,e2⟩:=jm (by omega) (by omega) h2
 exact ⟨by omega,by omega,by rw [h.2.2.2,h'.2.2.2],e1,e2⟩):p_:=h_
theorem zz8a3 (h_:p_:=by
 obtain ⟨e1,e2⟩:=lT (by rw [aC];omega) (by rw [aC];omega) h2
 exact ⟨by omega,by omega,toList_inj e1,by omega,e2⟩):p_:=h_
theorem zz80f (h_:p_:=by
 obtain ⟨e1,e2⟩:=lT (by rw [aC];exact h.2.2.2) (by rw [aC];exact h'.2.2.2) h2
 exact ⟨by omega,by omega,toList_inj e1,by omega,e2⟩):p_:=h_
theorem zz66b (h_:p_:=by
 have e1:=Ye UInt8.toNat h2.1;simp only [UInt8.toNat_ofNat'] at e1
 exact ⟨by omega,by omega,by rw [h.2.2.2,h'.2.2.2],by omega,h2.2⟩):p_:=h_
theorem zz900 (h_:p_:=by
 obtain ⟨e1,e2⟩:=jm (by omega) (by omega) h2;obtain ⟨e3,e4⟩:=jm (by omega) (by omega) e2
 exact ⟨e1,e3,by rw [h.2.2.2,h'.2.2.2],by omega,e4⟩):p_:=h_
theorem zzc3f (h_:p_:=by
 obtain ⟨e1,e2⟩:=lT (by rw [aC];omega) (by rw [aC];omega) h2;obtain ⟨e3,e4⟩:=jm (by omega) (by omega) e2
 exact ⟨by omega,by omega,toList_inj e1,e3,e4⟩):p_:=h_
theorem Oj {k a b n q:Nat} {s:ByteArray} {r u:List UInt8} (h:hd k a b s n) (h':hd o g j s' q)
  (he:head k a b s.data.toList n++r=head o g j s'.data.toList q++u):k=o/\a=g/\b=j/\s=s'/\n=q/\r=u:=by
 unfold head at he;simp only [YD,List.cons.injEq] at he;obtain ⟨v,h2⟩:=he;obtain rfl:=Sq (CW h).2 (CW h').2 v;have w:=CW h;refine ⟨rfl,?_⟩;obtain rfl | rfl | rfl | rfl | rfl | rfl | rfl | rfl | rfl | rfl:k=1\/k=2\/k=3\/k=4\/k=5\/k=6\/k=7\/k=8\/k=9\/k=10:=Z0
 ·simp only [hd] at h h'
  simp only [mid,Yk] at h2;exact zz80f
 ·simp only [hd] at h h'
  simp only [mid,Yk] at h2;exact zz900
 ·simp only [hd] at h h'
  simp only [mid] at h2;exact zzfa7
 ·simp only [hd] at h h'
  simp only [mid,YE] at h2;exact zzd4e
 ·simp only [hd] at h h'
  simp only [mid,Yk] at h2;exact zzc3f
 ·simp only [hd] at h h'
  simp only [mid,Yk] at h2;exact zz8a3
 ·simp only [hd] at h h'
  simp only [mid,YE] at h2;exact zzd4e
 ·simp only [hd] at h h'
  simp only [mid,YD,YE,List.cons.injEq] at h2;exact zz66b
 ·simp only [hd] at h h'
  simp only [mid] at h2;exact zz605
 ·simp only [hd] at h h'
  simp only [mid] at h2;exact zz1e5
mutual
theorem mX:∀(t j:Tm) (r r':List UInt8),good t->good j->enc t++r=enc j++r'->t=j/\r=r'
 | .mk k a b s l,.mk k' a' b' s' l',r,r',h,h',he=>by
  simp only [good] at h h';simp only [enc,Yk] at he;obtain ⟨rfl,rfl,rfl,rfl,u,g⟩:=Oj h.1 h'.1 he;obtain ⟨o,q⟩:=ru l l' r r' h.2.2 h'.2.2 u g;exact ⟨by rw [o],q⟩
theorem ru:∀(l g:List Tm) (r r':List UInt8),eH l->eH g->l.length=g.length->encs l++r=encs g++r'->l=g/\r=r'
 | [],[],r,r',_,_,_,he=>by
  simp only [encs,YE] at he;exact ⟨rfl,he⟩
 | [],_ :: _,_,_,_,_,hl,_=>by simp at hl
 | _ :: _,[],_,_,_,_,hl,_=>by simp at hl
 | t :: l,t' :: g,r,r',h,h',hl,he=>by
  simp only [eH] at h h';simp only [encs,Yk] at he;obtain ⟨j,o⟩:=mX t t' _ _ h.1 h'.1 he;obtain ⟨q,u⟩:=ru l g r r' h.2 h'.2 Xu o;exact ⟨by rw [j,q],u⟩
end
theorem UN {t g:Tm} (h:good t) (j:good g) (he:enc t=enc g):t=g:=(mX t g [] [] h j (by rw [he])).1
def txt:Option Tm->List UInt8
 | none=>[]
 | some t=>enc t
theorem SK {o g:Option Tm} (h:∀t,o=some t->good t) (j:∀t,g=some t->good t) (he:txt o=txt g):o=g:=by
 cases o with
 | none=>cases g with
  | none=>rfl
  | some t=>exact absurd he.symm (qc t)
 | some t=>cases g with
  | none=>exact absurd he (qc t)
  | some t'=>rw [UN (h t rfl) (j t' rfl) he]
theorem wJ (t:Tm) (h:good t):∃r,enc t=UInt8.ofNat (240+t.k) :: r:=by
 obtain ⟨k,a,b,s,l⟩:=t;exact ⟨_,rfl⟩
def lim (t:Tm):Option Tm:=if (enc t).length<=131072 then some t else none
def eB:ByteArray:=⟨#[]⟩
def okN (n:Int):Bool:=decide (0<=n) && decide (n<=2147483647)
def aM (s:ByteArray):Option Tm:=lim (.mk 1 0 0 s [])
def kC (who n:Int):Option Tm:=if okN who && okN n then some (.mk 2 who.toNat n.toNat eB []) else none
def lh (who:Int):Option Tm:=if okN who then some (.mk 3 who.toNat 0 eB []) else none
def pI:Option Tm->Option Tm
 | some t=>if t.k=3 then some (.mk 4 0 0 eB [t]) else none
 | none=>none
def pK (g:ByteArray):Option Tm:=if 1<=g.size/\g.size<=2100 then some (.mk 5 0 0 g []) else none
def tlt (x y:Tm):Bool:=decide (x.a<y.a\/x.a=y.a/\x.b<y.b)
def ins (x:Tm):List Tm->List Tm
 | []=>[x]
 | y :: l=>if tlt x y then x :: y :: l else y :: ins x l
def Bu:Option Tm->Option Tm->Option Tm
 | some s,some x=>if s.k=5/\x.k=2/\s.l.length<8 then some (.mk 5 0 0 s.s (ins x s.l)) else none
 | _,_=>none
def jR (alg:ByteArray):Option Tm->Option Tm->Option Tm
 | some key,some t=>if (1<=alg.size/\alg.size<=64)/\key.k=3 then lim (.mk 6 0 0 alg [key,t]) else none
 | _,_=>none
def mi:Option Tm->Option Tm
 | some t=>lim (.mk 7 0 0 eB [t])
 | none=>none
def qK (c:Nat):Option Tm->Option Tm->Option Tm->Option Tm
 | some x,some y,some z=>lim (.mk 8 0 c eB [x,y,z])
 | _,_,_=>none
def Dv (n:Nat):Option Tm->Option Tm->Option Tm
 | some key,some t=>lim (.mk 9 0 n eB [key,t])
 | _,_=>none
def sH:List (Option Tm)->Option (List Tm)
 | []=>some []
 | some t :: l=>match sH l with
  | some r=>some (t :: r)
  | none=>none
 | none :: _=>none
def gB (l:List (Option Tm)):Option Tm :=
 if l.length<=32 then match sH l with
  | some r=>lim (.mk 10 0 0 eB r)
  | none=>none
 else none

def fine (t:Tm):Prop:=good t/\(enc t).length<=131072
def bD (o:Option Tm):Prop:=∀t,o=some t->fine t
theorem Fq:bD none:=fun _ h=>ZM
theorem dZ {t:Tm} (h:fine t):bD (some t):=fun _ e=>by cases e;exact h
theorem qH {t:Tm} (h:good t):bD (lim t):=by
 intro u g;unfold lim at g
 split at g
 ·cases g
  exact ⟨h,by assumption⟩
 ·cases g
theorem tN {k a b:Nat} {s:ByteArray} (h:hd k a b s 0):good (.mk k a b s []):=by
 simp only [good,eH,YL,and_true];refine ⟨h,?_⟩;unfold kids
 split <;> simp
theorem gH {s:ByteArray} (h:s.size<4294967296):bD (aM s):=qH (tN ⟨rfl,rfl,rfl,h⟩)
theorem kv (g:Int):bD (lh g):=by
 intro t h;unfold lh okN at h
 split at h
 ·rename_i j
  simp only [YF,Yw] at j;cases h
  exact ⟨tN ⟨Z0,rfl,rfl,rfl⟩,XF⟩
 ·cases h
theorem zz62b (h_:p_:=by
 obtain ⟨k,a,b,s,l⟩:=t;simp only [Tm.k] at hk;subst hk;simp only [good,hd] at h;have:l=[]:=Yc h.1.2.2.1;subst this
 simp [enc,head,mid,encs,q4]):p_:=h_
theorem IB {t:Tm} (h:good t) (hk:t.k=3):(enc t).length=5:=by
 exact zz62b
theorem KF {t:Tm} (h:good t) (hk:t.k=2):(enc t).length=9:=by
 exact zz62b
theorem sM {o:Option Tm} (h:bD o):bD (pI o):=by
 intro t g
 cases o with
 | none=>cases g
 | some x =>
  unfold pI at g;simp only at g
  split at g
  ·rename_i hk
   cases g
   have j:=(h x rfl).1;have:=IB j hk;refine ⟨?_,by simp [enc,head,mid,encs];omega⟩;simp only [good,eH,and_true];exact ⟨⟨rfl,rfl,rfl,rfl⟩,Xg,j⟩
  ·cases g
theorem uT (x:Tm) (l:List Tm):(ins x l).length=l.length+1:=by
 induction l with
 | nil=>rfl
 | cons y l ih =>
  unfold ins
  split
  ·simp
  ·simp [ih]
theorem AJ {x z:Tm} {l:List Tm}:z∈ins x l↔z=x\/z∈l:=by
 induction l with
 | nil=>simp [ins]
 | cons y l ih =>
  unfold ins
  split
  ·simp
  ·simp only [Yz,ih]
   constructor
   ·rintro (h | h | h)
    ·exact .inr (.inl h)
    ·exact .inl h
    ·exact .inr (.inr h)
   ·rintro (h | h | h)
    ·exact .inr (.inl h)
    ·exact .inl h
    ·exact .inr (.inr h)
theorem xq {x y:Tm} (h:tlt x y=true):tle x y:=by
 unfold tlt at h;simp only [Yw] at h;unfold tle;omega
theorem D5 {x y:Tm} (h:¬ tlt x y=true):tle y x:=by
 unfold tlt at h;simp only [Yw] at h;unfold tle;omega
theorem zt {x y z:Tm} (h:tle x y) (k:tle y z):tle x z:=by
 unfold tle at *;omega
theorem wK {x:Tm} {l:List Tm} (h:l.Pairwise tle):(ins x l).Pairwise tle:=by
 induction l with
 | nil=>simp [ins]
 | cons y l ih =>
  obtain ⟨o,q⟩:=List.pairwise_cons.1 h;unfold ins
  split
  ·rename_i g
   refine List.pairwise_cons.2 ⟨fun z j=>?_,h⟩;rcases Yz.1 j with rfl | j
   ·exact xq g
   ·exact zt (xq g) (o z j)
  ·rename_i g
   refine List.pairwise_cons.2 ⟨fun z j=>?_,ih q⟩;rcases AJ.1 j with rfl | j
   ·exact D5 g
   ·exact o z j
theorem EY {o p:Option Tm} (h:bD o) (q:bD p):bD (jR alg o p):=by
 intro t g
 cases o with
 | none=>cases g
 | some s=>cases p with
  | none=>cases g
  | some x =>
   unfold jR at g;simp only at g
   split at g
   ·rename_i j
    refine qH ?_ t g;simp only [good,eH,and_true];exact ⟨⟨rfl,rfl,rfl,j.1.1,j.1.2⟩,by simpa [kids] using j.2,(h s rfl).1,(q x rfl).1⟩
   ·cases g
theorem EB {o:Option Tm} (h:bD o):bD (mi o):=by
 intro t g
 cases o with
 | none=>cases g
 | some s =>
  refine qH ?_ t g;simp only [good,eH,and_true];exact ⟨⟨rfl,rfl,rfl,rfl⟩,trivial,(h s rfl).1⟩
theorem nR {l:List (Option Tm)} {r:List Tm} (h:sH l=some r):l=r.map some:=by
 induction l generalizing r with
 | nil=>cases h;rfl
 | cons o l ih =>
  cases o with
  | none=>cases h
  | some t =>
   unfold sH at h
   split at h
   ·rename_i j g
    cases h
    rw [ih g];rfl
   ·cases h
theorem oI (r:List Tm):sH (r.map some)=some r:=by
 induction r with
 | nil=>rfl
 | cons t r ih=>simp [sH,ih]
theorem zO {l:List (Option Tm)} (h:none∈l):sH l=none:=by
 cases e:sH l with
 | none=>rfl
 | some r =>
  rw [nR e] at h;simp at h
theorem vW {l:List (Option Tm)} (h:∀o∈l,bD o):bD (gB l):=by
 intro t g;unfold gB at g
 split at g
 ·rename_i hl
  split at g
  ·rename_i r j
   refine qH ?_ t g;have e:=nR j;subst e;simp only [good];refine ⟨⟨rfl,rfl,Xu,rfl⟩,trivial,(gT r).2 fun z q=>(h (some z) (by simpa using q) z rfl).1⟩
  ·cases g
 ·cases g
def hw (k a b:Nat) (s:ByteArray) (n:Nat):Prop :=
 match k with
 | 1=>a=0/\b=0/\n=0/\s.size<4294967296
 | 2=>a<4294967296/\b<4294967296/\n=0/\s=⟨#[]⟩
 | 3=>a<4294967296/\b=0/\n=0/\s=⟨#[]⟩
 | 4=>a=0/\b=0/\n=1/\s=⟨#[]⟩
 | 5=>a=0/\b=0/\n<4294967296/\s.size<4294967296
 | 6=>a=0/\b=0/\n=2/\s.size<4294967296
 | 7=>a=0/\b=0/\n=1/\s=⟨#[]⟩
 | 8=>a=0/\b<256/\n=3/\s=⟨#[]⟩
 | 9=>a=0/\b<4294967296/\n=2/\s=⟨#[]⟩
 | 10=>a=0/\b=0/\n<4294967296/\s=⟨#[]⟩
 | _=>False
theorem ME {k a b n:Nat} {s:ByteArray} (h:hd k a b s n):hw k a b s n:=by
 have g:=CW h;obtain rfl | rfl | rfl | rfl | rfl | rfl | rfl | rfl | rfl | rfl:k=1\/k=2\/k=3\/k=4\/k=5\/k=6\/k=7\/k=8\/k=9\/k=10:=Z0
 all_goals (simp only [hd] at h;unfold hw)
 ·exact h
 ·exact ⟨Z0,Z0,h.2.2⟩
 ·exact ⟨Z0,h.2⟩
 ·exact h
 ·exact ⟨h.1,h.2.1,Z0,Z0⟩
 ·exact ⟨h.1,h.2.1,h.2.2.1,Z0⟩
 ·exact h
 ·exact h
 ·exact h
 ·exact ⟨h.1,h.2.1,Z0,h.2.2.2⟩
theorem zX {k a b n:Nat} {s:ByteArray} {r:List UInt8} (h:hw k a b s n) (h':hw k g j s' o)
  (h2:mid k a b s.data.toList n++r=mid k g j s'.data.toList o++q):a=g/\b=j/\s=s'/\n=o/\r=q:=by
 have u:1<=k/\k<=10:=by
  unfold hw at h
  split at h <;> first | omega | exact h.elim
 obtain rfl | rfl | rfl | rfl | rfl | rfl | rfl | rfl | rfl | rfl:k=1\/k=2\/k=3\/k=4\/k=5\/k=6\/k=7\/k=8\/k=9\/k=10:=Z0
 all_goals simp only [hw] at h h'
 ·simp only [mid,Yk] at h2
  exact zz80f
 ·simp only [mid,Yk] at h2
  exact zz900
 ·simp only [mid] at h2
  exact zzfa7
 ·simp only [mid,YE] at h2
  exact zzd4e
 ·simp only [mid,Yk] at h2
  exact zzc3f
 ·simp only [mid,Yk] at h2
  exact zz8a3
 ·simp only [mid,YE] at h2
  exact zzd4e
 ·simp only [mid,YD,YE,List.cons.injEq] at h2
  exact zz66b
 ·simp only [mid] at h2
  exact zz605
 ·simp only [mid] at h2
  exact zz1e5

def NoT (s:List UInt8):Prop:=∀t r,good t->s≠enc t++r
def D8 (n:Nat) (s:List UInt8):Prop:=∀l r,eH l->l.length=n->s≠encs l++r
theorem wH {t:Tm} (h:good t):1<=t.k/\t.k<=10:=by
 cases t
 simp only [good] at h;exact CW h.1
theorem Rk:NoT []:=by
 intro t r _ h;have:=Ye List.length h;have g:=qc t
 cases e:enc t with
 | nil=>exact g e
 | cons x y=>rw [e] at this;simp at this
theorem vV (t:Tm) (r:List UInt8):enc t++r=UInt8.ofNat (240+t.k) :: (mid t.k t.a t.b t.s.data.toList t.l.length++(encs t.l++r)):=by
 obtain ⟨k,a,b,s,l⟩:=t;simp [enc,head,Tm.k,Tm.a,Tm.b,Tm.s,Tm.l]
theorem Qq {c:UInt8} {s:List UInt8} (h:c.toNat<241\/250<c.toNat):NoT (c :: s):=by
 intro t r g e;rw [vV,List.cons.injEq] at e;have j:=wH g;have:=Ye UInt8.toNat e.1;simp only [UInt8.toNat_ofNat'] at this;omega
section
variable {c : UInt8} {k a b n : Nat} {s : ByteArray} {s1 s2 r : List UInt8} {l : List Tm}
theorem AR {t:Tm} (g:good t) (j:c.toNat=240+k) (e:c :: s1=enc t++r):t.k=k/\hd k t.a t.b t.s t.l.length/\kids k t.l/\eH t.l/\s1=mid k t.a t.b t.s.data.toList t.l.length++(encs t.l++r):=by
 rw [vV,List.cons.injEq] at e;have o:=wH g;have h:=Ye UInt8.toNat e.1;simp only [UInt8.toNat_ofNat'] at h;obtain rfl:k=t.k:=Z0;obtain ⟨k,a,b,s,l⟩:=t;simp only [good] at g;exact ⟨rfl,g.1,g.2.1,g.2.2,e.2⟩
theorem jb (o:c.toNat=240+k) (h:∀a b s n s2,hd k a b s n->s1≠mid k a b s.data.toList n++s2):NoT (c :: s1):=by
 intro t r q e;obtain ⟨_,g,_,_,j⟩:=AR q o e;exact h _ _ _ _ _ g j
theorem O7 (q:c.toNat=240+k) (u:hw k a b s n) (o:s1=mid k a b s.data.toList n++s2) (h:¬ hd k a b s n):NoT (c :: s1):=by
 intro t r v e;obtain ⟨_,g,_,_,j⟩:=AR v q e;rw [o] at j;obtain ⟨rfl,rfl,rfl,rfl,_⟩:=zX u (ME g) j;exact h g
theorem Ub (w:c.toNat=240+k) (z:hw k a b s n) (j:s1=mid k a b s.data.toList n++s2) (h:D8 n s2):NoT (c :: s1):=by
 intro t r A e;obtain ⟨_,u,_,v,g⟩:=AR A w e;rw [j] at g;obtain ⟨_,_,_,o,q⟩:=zX z (ME u) g;exact h _ _ v o.symm q
theorem Pj (z:c.toNat=240+k) (A:hw k a b s n) (o:s1=mid k a b s.data.toList n++s2) (B:eH l) (F:l.length=n) (q:s2=encs l++r) (h:¬ kids k l):NoT (c :: s1):=by
 intro t G C e;obtain ⟨_,u,v,w,j⟩:=AR C z e;rw [o] at j;obtain ⟨_,_,_,D,g⟩:=zX A (ME u) j;rw [q] at g;obtain ⟨rfl,_⟩:=ru _ _ _ _ B w Z0 g;exact h v
theorem Qr (j:c.toNat=240+k) (q:k<=10) (g:s1=mid k a b s.data.toList n++s2) (o:l.length=n) (h:s2=encs l++r):c :: s1=enc (.mk k a b s l)++r:=by
 rw [vV,g,h,List.cons.injEq];refine ⟨UInt8.toNat_inj.1 ?_,by rw [<-o];rfl⟩;rw [j,UInt8.toNat_ofNat'];simp only [Tm.k];omega
end
theorem yX {n:Nat} {l:List Tm} {s s':List UInt8} (v:eH l) (hi:l.length=i) (h:i<n) (e:s=encs l++s') (u:NoT s'):D8 n s:=by
 intro m r w z g;have o:=(gT m).1 w
 have q:m=m.take i++(m[i]'Z0 :: m.drop (i+1)):=by
  conv=>lhs;rw [<-List.take_append_drop i m]
  rw [List.drop_eq_getElem_cons Z0]
 rw [e,q,iQ,Yk] at g;obtain ⟨_,j⟩:=ru l (m.take i) _ _ v ((gT _).2 fun t A=>o t (List.mem_of_mem_take A)) ZS g;simp only [encs,Yk] at j;exact u _ _ (o _ (Yf _)) j
theorem wT {l:List Tm} {t:Tm} (h:eH l) (j:good t):eH (l++[t]):=by
 rw [gT] at h ⊢;intro x g;rcases Yy.1 g with g | g
 ·exact h x g
 ·rw [Ym] at g
  rw [g];exact j
theorem LM {l:List Tm} {t:Tm} {s s' s2:List UInt8} (h:s=encs l++s') (g:s'=enc t++s2):s=encs (l++[t])++s2:=by
 rw [iQ,h,g];simp [encs]
theorem Ie (x y:UInt8) (r s:List UInt8):Op.bytesLess (x :: r) (y :: s)=if x.toNat<y.toNat then true else if x.toNat=y.toNat then Op.bytesLess r s else false:=by
 rw [Op.bytesLess]
 by_cases h:x.toNat<y.toNat
 ·rw [Y6 h]
  simp [UInt8.lt_iff_toNat_lt,h]
 ·rw [Y5 h]
  by_cases g:x.toNat=y.toNat
  ·have e:=UInt8.toNat_inj.1 g
   subst e;simp
  ·have e:x≠y:=fun e=>g (by rw [e])
   simp [UInt8.lt_iff_toNat_lt,h,g,e]
theorem Tn {n m:Nat} (u:n<4294967296) (q:m<4294967296) (r s:List UInt8):Op.bytesLess (q4 n++r) (q4 m++s)=if n<m then true else if n=m then Op.bytesLess r s else false:=by
 have j:∀x:Nat,x / 65536=x / 256 / 256:=fun x=>by rw [Nat.div_div_eq_div_mul]
 have o:∀x:Nat,x / 16777216=x / 256 / 256 / 256:=fun x=>by rw [Nat.div_div_eq_div_mul,Nat.div_div_eq_div_mul]
 simp only [q4,YD,YE,Ie,UInt8.toNat_ofNat',j,o]
 by_cases g:n<m
 ·rw [Y6 g]
  by_cases c1:n / 256 / 256 / 256 % 2 ^ 8<m / 256 / 256 / 256 % 2 ^ 8
  ·rw [Y6 c1]
  ·rw [Y5 c1,Y6 Z0]
   by_cases c2:n / 256 / 256 % 2 ^ 8<m / 256 / 256 % 2 ^ 8
   ·rw [Y6 c2]
   ·rw [Y5 c2,Y6 Z0]
    by_cases c3:n / 256 % 2 ^ 8<m / 256 % 2 ^ 8
    ·rw [Y6 c3]
    ·rw [Y5 c3,Y6 Z0,Y6 Z0]
 ·rw [Y5 g]
  by_cases h:n=m
  ·subst h
   simp
  ·rw [Y5 h,Y5 Z0]
   by_cases c1:n / 256 / 256 / 256 % 2 ^ 8=m / 256 / 256 / 256 % 2 ^ 8
   ·rw [Y6 c1,Y5 Z0]
    by_cases c2:n / 256 / 256 % 2 ^ 8=m / 256 / 256 % 2 ^ 8
    ·rw [Y6 c2,Y5 Z0]
     by_cases c3:n / 256 % 2 ^ 8=m / 256 % 2 ^ 8
     ·rw [Y6 c3,Y5 Z0,Y5 Z0]
     ·rw [Y5 c3]
    ·rw [Y5 c2]
   ·rw [Y5 c1]
theorem j5 {t:Tm} (h:good t) (g:t.k=2):enc t=UInt8.ofNat 242 :: (q4 t.a++q4 t.b)/\t.a<2147483648/\t.b<2147483648/\t=.mk 2 t.a t.b eB []:=by
 obtain ⟨k,a,b,s,l⟩:=t;simp only [Tm.k] at g;subst g;simp only [good,hd] at h;have:l=[]:=Yc h.1.2.2.1;subst this;simp only [Tm.a,Tm.b];refine ⟨by simp [enc,head,mid,encs],h.1.1,h.1.2.1,by rw [h.1.2.2.2];rfl⟩
theorem Fy {x y:Tm} (v:good x) (w:good y) (kx:x.k=2) (ky:y.k=2):Op.bytesLess (enc x) (enc y)=tlt x y:=by
 obtain ⟨q,a1,b1,_⟩:=j5 v kx;obtain ⟨u,a2,b2,_⟩:=j5 w ky;rw [q,u,Ie,Y5 (Nat.lt_irrefl _),Y6 rfl,Tn Z0 Z0];have o:=Tn (n:=x.b) (m:=y.b) Z0 Z0 [] [];rw [List.append_nil,List.append_nil] at o;rw [o];unfold tlt
 by_cases h:x.a<y.a
 ·rw [Y6 h]
  simp [h]
 ·rw [Y5 h]
  by_cases g:x.a=y.a
  ·rw [Y6 g]
   by_cases j:x.b<y.b
   ·rw [Y6 j]
    simp [g,j]
   ·rw [Y5 j]
    have:Op.bytesLess [] []=false:=rfl;simp [g,j,this]
  ·rw [Y5 g]
   simp [h,g]
def gZ (l:List Nat):List UInt8:=l.flatMap fun i=>Go.Lib.decDigits i++[32]
theorem EC (l:List Nat) (i:Nat):gZ (l++[i])=gZ l++(Go.Lib.decDigits i++[32]):=by simp [gZ]
theorem GN (u:Nat):Go.Lib.decDigits u=if u<10 then [UInt8.ofNat (48+u)] else Go.Lib.decDigits (u / 10)++[UInt8.ofNat (48+u % 10)]:=by
 by_cases h:u<10
 ·rw [Go.Lib.decDigits,dif_pos h,Y6 h]
 ·rw [Go.Lib.decDigits,dif_neg h,Y5 h]
def Jf (l:List UInt8):Nat:=l.foldl (fun a c=>a*10+(c.toNat - 48)) 0
theorem I6 (l:List UInt8) (c:UInt8):Jf (l++[c])=Jf l*10+(c.toNat - 48):=by simp [Jf]
theorem Cr (u:Nat):Jf (Go.Lib.decDigits u)=u:=by
 induction u using Nat.strongRecOn with
 | _ u ih =>
  rw [GN]
  split
  ·rename_i h
   simp [Jf,UInt8.toNat_ofNat'];omega
  ·rename_i h
   rw [I6,ih (u / 10) Z0,UInt8.toNat_ofNat'];omega
theorem DY (u:Nat):∀c∈Go.Lib.decDigits u,c≠32:=by
 induction u using Nat.strongRecOn with
 | _ u ih =>
  rw [GN]
  have key:∀d,d<10->UInt8.ofNat (48+d)≠32:=by
   intro d hd h;have:=Ye UInt8.toNat h;simp only [UInt8.toNat_ofNat'] at this;have j:(32:UInt8).toNat=32:=rfl;omega
  split
  ·rename_i h
   intro c g;rw [Ym] at g;subst g;exact key u h
  ·rename_i h
   intro c g;rcases Yy.1 g with g | g
   ·exact ih (u / 10) Z0 c g
   ·rw [Ym] at g
    subst g;exact key _ Z0
theorem QY {l g r:List UInt8} (h:∀c∈l,c≠32) (o:∀c∈g,c≠32) (e:l++32 :: r=g++32 :: q):l=g/\r=q:=by
 induction l generalizing g with
 | nil =>
  cases g with
  | nil=>exact ⟨rfl,XO⟩
  | cons c g =>
   simp only [YE,YD,List.cons.injEq] at e;exact absurd e.1.symm (o c Z3)
 | cons c l ih =>
  cases g with
  | nil =>
   simp only [YE,YD,List.cons.injEq] at e;exact absurd e.1 (h c Z3)
  | cons c' g =>
   simp only [YD,List.cons.injEq] at e;obtain ⟨rfl,e⟩:=e;obtain ⟨rfl,u⟩:=ih (fun x j=>h x (by simp [j])) (fun x j=>o x (by simp [j])) e;exact ⟨rfl,u⟩
theorem yM:∀{l l':List Nat},gZ l=gZ l'->l=l'
 | [],[],_=>rfl
 | [],i :: l,h=>by simp [gZ] at h
 | i :: l,[],h=>by simp [gZ] at h
 | i :: l,j :: l',h=>by
  have o:gZ (i :: l)=Go.Lib.decDigits i++32 :: gZ l:=by simp [gZ]
  have q:gZ (j :: l')=Go.Lib.decDigits j++32 :: gZ l':=by simp [gZ]
  rw [o,q] at h;obtain ⟨u,v⟩:=QY (DY i) (DY j) h;have g:=Ye Jf u;rw [Cr,Cr] at g;rw [g,yM v]
def arg (T:List Tm) (n:Int):Option Tm:=if 0<=n then T[n.toNat]? else none
structure AOK (T:List Tm):Prop where
 nodup:T.Nodup
 fine:∀t∈T,fine t
 sub:∀(i:Nat) (t:Tm),T[i]?=some t->∀c∈t.l,∃j:Nat,j<i/\T[j]?=some c
theorem R6:AOK []:=⟨List.nodup_nil,Z3,Z3⟩
theorem Ip {T:List Tm} {n:Int} {t:Tm} (h:arg T n=some t):t∈T:=by
 unfold arg at h
 split at h
 ·exact Yo h
 ·cases h
theorem Be {T:List Tm} :arg T (i:Int)=T[i]?:=by simp [arg]
theorem qV {T g:List Tm} (h:T <+: g) {t:Tm} (hi:T[i]?=some t):g[i]?=some t:=by
 obtain ⟨r,rfl⟩:=h;rw [Yn (Yx.1 hi).1];exact hi
theorem SV {T g:List Tm} (h:T <+: g) {n:Int} {t:Tm} (hi:arg T n=some t):arg g n=some t:=by
 unfold arg at hi ⊢
 split at hi
 ·rename_i j
  rw [Y6 j];exact qV h hi
 ·cases hi
theorem Aq {T:List Tm} (g:AOK T) {t:Tm} (hi:T[i]?=some t) (h:T[j]?=some t):i=j :=
 (List.getElem?_inj (Yx.1 hi).1 g.nodup).1 (hi.trans h.symm)
theorem RL {T:List Tm} (h:AOK T) {n:Int} {t:Tm} (hi:arg T n=some t) (g:arg T m=some t):n=m:=by
 unfold arg at hi g
 split at hi
 ·split at g
  ·have:=Aq h hi g
   omega
  ·cases g
 ·cases hi
def Idn (T:List Tm) (o:Option Tm) (n:Int):Prop:=arg T n=o/\(o=none->n=-1)
theorem dB (T:List Tm):Idn T none (-1):=⟨rfl,fun _=>rfl⟩
theorem Idn.pre {T g:List Tm} {o:Option Tm} {n:Int} (h:Idn T o n) (hp:T <+: g):Idn g o n:=by
 obtain ⟨j,q⟩:=h
 cases o with
 | none=>rw [q rfl];exact dB _
 | some t=>exact ⟨SV hp j,fun e=>Xv⟩
theorem Idn.eq_iff {T:List Tm} (j:AOK T) {o p:Option Tm} {n:Int} (h:Idn T o n) (g:Idn T p m):n=m↔o=p:=by
 constructor
 ·rintro rfl
  rw [<-h.1,g.1]
 ·rintro rfl
  cases o with
  | none=>rw [h.2 rfl,g.2 rfl]
  | some t=>exact RL j h.1 g.1
theorem Idn.none_iff {T:List Tm} {o:Option Tm} {n:Int} (h:Idn T o n):n=-1↔o=none:=by
 constructor
 ·rintro rfl
  exact h.1.symm
 ·exact h.2
theorem Idn.range {T:List Tm} {o:Option Tm} {n:Int} (h:Idn T o n):-1<=n/\n<T.length:=by
 cases o with
 | none=>rw [h.2 rfl];omega
 | some t =>
  have:=h.1;unfold arg at this
  split at this
  ·have:=(Yx.1 this).1
   omega
  ·cases this
def Put (T:List Tm) (o:Option Tm) (T':List Tm) (n:Int):Prop :=
 (o=none/\T'=T/\n=-1)\/∃t,∃i:Nat,o=some t/\n=(i:Int)/\T'[i]?=some t/\(T'=T\/t ∉ T/\T'=T++[t])
theorem NV (T:List Tm):Put T none T (-1):=.inl ⟨rfl,rfl,rfl⟩
theorem R7 {T:List Tm} {t:Tm} (h:T[i]?=some t):Put T (some t) T i:=.inr ⟨t,i,rfl,rfl,h,.inl rfl⟩
theorem Iq {T:List Tm} {t:Tm} (h:t ∉ T):Put T (some t) (T++[t]) T.length:=.inr ⟨t,T.length,rfl,rfl,Z3,.inr ⟨h,rfl⟩⟩
theorem Put.pre {T g:List Tm} {o:Option Tm} {n:Int} (h:Put T o g n):T <+: g:=by
 rcases h with ⟨_,rfl,_⟩ | ⟨t,i,_,_,_,rfl | ⟨_,rfl⟩⟩
 ·exact Yl _
 ·exact Yl _
 ·exact List.prefix_append _ _
theorem Put.idn {T g:List Tm} {o:Option Tm} {n:Int} (h:Put T o g n):Idn g o n:=by
 rcases h with ⟨rfl,rfl,rfl⟩ | ⟨t,i,rfl,rfl,h,_⟩
 ·exact dB _
 ·exact ⟨by rw [Be];exact h,fun e=>Xv⟩
theorem Put.len {T g:List Tm} {o:Option Tm} {n:Int} (h:Put T o g n):g.length<=T.length+1:=by
 rcases h with ⟨_,rfl,_⟩ | ⟨t,i,_,_,_,rfl | ⟨_,rfl⟩⟩ <;> simp
def eF (T:List Tm) (l:List Tm) (js:List Nat):Prop:=js.map (fun j=>T[j]?)=l.map some
theorem eF.len {T l:List Tm} (h:eF T l js):js.length=l.length:=by
 have:=Ye List.length h;simpa using this
theorem eF.pre {T g l:List Tm} (h:eF T l js) (hp:T <+: g):eF g l js:=by
 unfold eF at h ⊢;rw [<-h];refine List.map_congr_left fun j u=>?_
 have q:T[j]?∈l.map some:=by
  rw [<-h];exact List.mem_map.2 ⟨j,u,rfl⟩
 obtain ⟨t,_,o⟩:=List.mem_map.1 q;rw [<-o];exact qV hp o.symm
theorem eF.inj {T l:List Tm} (z:AOK T) {g:List Nat} (h:eF T l js) (v:eF T l g):js=g:=by
 have o:js.map (fun j=>T[j]?)=g.map (fun j=>T[j]?):=h.trans v.symm
 have hs:∀j∈js,∃t,T[j]?=some t:=by
  intro j u
  have w:T[j]?∈l.map some:=by
   rw [<-h];exact List.mem_map.2 ⟨j,u,rfl⟩
  obtain ⟨t,_,q⟩:=List.mem_map.1 w;exact ⟨t,q.symm⟩
 clear h v
 induction js generalizing g with
 | nil =>
  cases g with
  | nil=>rfl
  | cons k g=>simp at o
 | cons j js ih =>
  cases g with
  | nil=>simp at o
  | cons k g =>
   simp only [List.map_cons,List.cons.injEq] at o;obtain ⟨t,q⟩:=hs j Z3;rw [Aq z q (o.1 ▸ q),ih o.2 fun j u=>hs j (by simp [u])]
theorem eF.back {T l m:List Tm} (h:eF T l js) (g:eF T m js):l=m:=by
 have j:l.map some=m.map some:=h.symm.trans g;exact (List.map_inj_right fun _ _ e=>by injection e).1 j
theorem eF.at_ {T l:List Tm} (h:eF T l js) {p:Nat} (hp:p<js.length):∃c,l[p]?=some c/\T[js[p]]?=some c:=by
 have h1:=Ye (fun x=>x[p]?) h;simp only [Yt,Y1 hp,Option.map_some] at h1
 cases e:l[p]? with
 | none=>rw [e] at h1;simp at h1
 | some c=>rw [e] at h1;exact ⟨c,rfl,XQ⟩
theorem eF.snoc {T l:List Tm} {c:Tm} (h:eF T l js) (g:T[j]?=some c):eF T (l++[c]) (js++[j]):=by
 unfold eF at h ⊢;rw [List.map_append,h];simp [g]
theorem Rv {T D:List Tm} (v:AOK T) {o:Option Tm} {n:Int} (L:bD o) (hs:∀t,o=some t->∀c∈t.l,∃j:Nat,T[j]?=some c) (h:Put T o D n):AOK D:=by
 rcases h with ⟨_,rfl,_⟩ | ⟨t,i,rfl,_,_,rfl | ⟨K,rfl⟩⟩
 ·exact v
 ·exact v
 ·refine ⟨?_,?_,?_⟩
  ·rw [List.nodup_append]
   refine ⟨v.nodup,Z3,?_⟩;rintro a J b G rfl;rw [Ym] at G;subst G;exact K J
  ·intro u q
   rcases Yy.1 q with q | q
   ·exact v.fine u q
   ·rw [Ym] at q
    subst q;exact L _ rfl
  ·intro j u g c I
   rcases Nat.lt_or_ge j T.length with C | z
   ·rw [Yn C] at g
    obtain ⟨k,w,B⟩:=v.sub j u g c I;exact ⟨k,w,qV (List.prefix_append _ _) B⟩
   ·rw [Ys z] at g
    have A:j - T.length=0:=by
     rcases Nat.eq_zero_or_pos (j - T.length) with F | F
     ·exact F
     ·rw [YJ (by simp;omega)] at g;cases g
    rw [A] at g;simp only [Q1,Option.some.injEq] at g;subst g;obtain ⟨k,w⟩:=hs _ rfl c I;exact ⟨k,by have:=(Yx.1 w).1;omega,qV (List.prefix_append _ _) w⟩
def jL (T:List Tm) (ns:List Int):Option (List Tm):=sH (ns.map (arg T))
theorem rX {T l:List Tm} (h:jL T ns=some l):∃js:List Nat,ns=js.map Int.ofNat/\eF T l js:=by
 have g:=nR h;clear h
 induction ns generalizing l with
 | nil =>
  cases l with
  | nil=>exact ⟨[],rfl,rfl⟩
  | cons t l=>simp at g
 | cons n ns ih =>
  cases l with
  | nil=>simp at g
  | cons t l =>
   simp only [List.map_cons,List.cons.injEq] at g;obtain ⟨js,rfl,o⟩:=ih g.2;have j:=g.1;unfold arg at j
   split at j
   ·rename_i q
    refine ⟨n.toNat :: js,?_,?_⟩
    ·simp;omega
    ·unfold eF at o ⊢
     simp [o,j]
   ·cases j
structure Mk where
 k:Int
 a:Int
 b:Int
 c:Int
 s:ByteArray
instance:Inhabited Mk:=⟨⟨0,0,0,0,eB⟩⟩
def oz (ms:List (Option Tm)) (i:Int):Option Tm:=if 0<=i then (ms[i.toNat]?).getD none else none
def Wh (ms:List (Option Tm)) (p n:Int):List (Option Tm):=if 0<=p then ((ms.drop p.toNat).take n.toNat).take 40 else []
def Qo (s:ByteArray):Nat:=match s.data.toList with
 | []=>0
 | c :: _=>c.toNat
def mkO (ms:List (Option Tm)) (x:Mk):Option Tm :=
 if x.k=1 then aM x.s else
 if x.k=2 then kC x.a x.b else
 if x.k=3 then lh x.a else
 if x.k=4 then pI (oz ms x.a) else
 if x.k=5 then (if x.a<0 then pK x.s else Bu (oz ms x.a) (oz ms x.b)) else
 if x.k=6 then jR x.s (oz ms x.a) (oz ms x.b) else
 if x.k=7 then mi (oz ms x.a) else
 if x.k=8 then qK (Qo x.s) (oz ms x.a) (oz ms x.b) (oz ms x.c) else
 if x.k=9 then Dv (x.c % 4294967296).toNat (oz ms x.a) (oz ms x.b) else
 if x.k=10 then gB (Wh ms x.a x.b) else none
def makes (l:List Mk):List (Option Tm):=l.foldl (fun ms x=>ms++[mkO ms x]) []
def fQ (T:List Tm) (k a b:Nat) (s:ByteArray) (ns:List Int):Option Tm:=match jL T ns with
 | some l=>lim (.mk k a b s l)
 | none=>none
theorem LC {T:List Tm} {l:List Tm} {n:Int} {t:Tm} (h:jL T ns=some l) (g:arg T n=some t):jL T (ns++[n])=some (l++[t]):=by
 unfold jL at h ⊢;have e:=nR h;rw [List.map_append,e];simp only [List.map_cons,List.map_nil,g];have:=oI (l++[t]);simpa using this
theorem Kh {T:List Tm} {n:Int} (g:n∈ns) (h:arg T n=none):jL T ns=none:=zO (by rw [<-h];exact List.mem_map.2 ⟨n,g,rfl⟩)
theorem yn (l:List Tm) (t:Tm):(encs (l++[t])).length=(encs l).length+(enc t).length:=by
 rw [iQ];simp [encs]
theorem gV {t:Tm} (h:(enc t).length<=131072):lim t=some t:=by unfold lim;rw [Y6 h]
theorem MN {T:List Tm} {l:List Tm} (h:jL T ns=some l):∀c∈l,∃j:Nat,T[j]?=some c:=by
 obtain ⟨js,_,g⟩:=rX h;intro c o
 have:some c∈js.map (fun j=>T[j]?):=by
  rw [g];exact List.mem_map.2 ⟨c,o,rfl⟩
 obtain ⟨j,_,q⟩:=List.mem_map.1 this;exact ⟨j,q⟩
theorem vQ {T:List Tm} {l:List Tm} (h:jL T ns=some l):l.length=ns.length:=by
 obtain ⟨js,g,j⟩:=rX h;rw [g,<- j.len];simp
section
variable {T : List Tm}
theorem DI {g n:Int} (h:okN g=true) (j:okN n=true):fQ T 2 g.toNat n.toNat eB []=kC g n:=by
 unfold kC;rw [h,j];show lim _=_;rw [gV XF];rfl
theorem Jj {g:Int} (h:okN g=true):fQ T 3 g.toNat 0 eB []=lh g:=by
 unfold lh;rw [h];show lim _=_;rw [gV XF];rfl
theorem iD {n:Int}:okN n=true↔0<=n/\n<=2147483647:=by simp [okN]
def nK (o:Option Tm) (k:Int):Bool:=match o with
 | some t=>(t.k:Int) == k
 | none=>false
theorem jk {o:Option Tm} {k:Nat} (h:nK o k=true):∃t,o=some t/\t.k=k:=by
 cases o with
 | none=>cases h
 | some t =>
  simp only [nK,beq_iff_eq] at h;exact ⟨t,rfl,Z0⟩
theorem qB {o:Option Tm} {k:Nat} (h:nK o k=false) {t:Tm} (g:o=some t):t.k≠k:=by
 subst g;intro e;simp [nK,e] at h
theorem KS (o:AOK T) {n:Int} (h:nK (arg T n) 3=true):fQ T 4 0 0 eB [n]=pI (arg T n):=by
 obtain ⟨t,j,g⟩:=jk (k:=3) h;have q:=o.fine t (Ip j);have u:=IB q.1 g;unfold fQ jL;rw [List.map_cons,List.map_nil,j];show lim _=if t.k=3 then _ else none;rw [Y6 g,gV (by simp [enc,head,mid,encs];omega)]
theorem IP {o:Option Tm} (h:nK o 3=false):pI o=none:=by
 cases o with
 | none=>rfl
 | some t =>
  show (if t.k=3 then _ else none)=none;rw [Y5 (qB (k:=3) h rfl)]
theorem GI {g:ByteArray} (h:1<=g.size/\g.size<=2100):fQ T 5 0 0 g []=pK g:=by
 unfold pK;rw [Y6 h];show lim _=_;rw [gV (by simp [enc,head,mid,encs,q4];have:g.data.size=g.size:=rfl;omega)]
theorem Ef (n:Int):fQ T 7 0 0 eB [n]=mi (arg T n):=by
 unfold fQ jL;rw [List.map_cons,List.map_nil];cases arg T n <;> rfl
theorem Av (c:Nat) (n m p:Int):fQ T 8 0 c eB [n,m,p]=qK c (arg T n) (arg T m) (arg T p):=by
 unfold fQ jL;simp only [List.map_cons,List.map_nil];cases arg T n <;> cases arg T m <;> cases arg T p <;> rfl
theorem Em (c:Nat) (n m:Int):fQ T 9 0 c eB [n,m]=Dv c (arg T n) (arg T m):=by
 unfold fQ jL;simp only [List.map_cons,List.map_nil];cases arg T n <;> cases arg T m <;> rfl
theorem FN (g:1<=alg.size/\alg.size<=64) {n:Int} (h:nK (arg T n) 3=true):fQ T 6 0 0 alg [n,m]=jR alg (arg T n) (arg T m):=by
 obtain ⟨t,o,j⟩:=jk (k:=3) h;unfold fQ jL;simp only [List.map_cons,List.map_nil];rw [o]
 cases arg T m with
 | none=>rfl
 | some u =>
  show lim _=if _ then _ else none;rw [Y6 ⟨g,j⟩]
theorem qJ {o p:Option Tm} (h:¬ (1<=alg.size/\alg.size<=64)\/nK o 3=false):jR alg o p=none:=by
 cases o with
 | none=>rfl
 | some t=>cases p with
  | none=>rfl
  | some u =>
   show (if _ then _ else none)=none;rw [Y5];rintro ⟨g,j⟩;rcases h with h | h
   ·exact h g
   ·exact qB (k:=3) h rfl j
theorem EX (h:ns.length<=32):fQ T 10 0 0 eB ns=gB (ns.map (arg T)):=by
 unfold fQ gB jL;rw [Y6 Xx] <;> rfl
theorem xu {l:List (Option Tm)} (h:¬ l.length<=32):gB l=none:=by unfold gB;rw [Y5 h]
theorem Lm (h:AOK T) {t:Tm} (j:t∈T) (g:t.k=5):t.l.length<=8:=by
 obtain ⟨k,a,b,s,l⟩:=t;simp only [Tm.k] at g;subst g;have:=(h.fine _ j).1;simp only [good,hd] at this;exact this.1.2.2.1
end
theorem FP {s1 r:List UInt8} {n:Nat} (h:s1.length<4):s1≠q4 n++r:=by
 rintro rfl;rw [Ya,bM] at h;omega
theorem nu {s1:List UInt8} (h:4<=s1.length):s1=q4 (n4 s1)++s1.drop 4:=by
 match s1,h with
 | x :: y :: z :: u :: r,_=>rw [TF];rfl
theorem EK {s1 s r:List UInt8} (h:s1.length<4\/s1.length - 4<n4 s1) (hs:s.length<4294967296):s1≠q4 s.length++(s++r):=by
 rintro rfl;rw [zf hs,Ya,bM,Ya] at h;omega
theorem zP {s1:List UInt8} (g:4<=s1.length) (h:n4 s1<=s1.length - 4):((s1.drop 4).take (n4 s1)).length=n4 s1/\s1=q4 (n4 s1)++((s1.drop 4).take (n4 s1)++s1.drop (4+n4 s1)):=by
 refine ⟨by rw [Yq,Yu];omega,?_⟩;rw [<-Yr,List.take_append_drop];exact nu g
section
variable {c : UInt8} {s1 : List UInt8}
theorem no1 (j:c.toNat=241) (h:s1.length<4\/s1.length - 4<n4 s1):NoT (c :: s1) :=
 jb (k:=1) j fun a b s n s2 g e=>by
  simp only [hd] at g;simp only [mid,Yk] at e;exact EK h (by rw [aC];exact g.2.2.2) e
theorem no2 (g:c.toNat=242) (h:s1.length<8):NoT (c :: s1) :=
 jb (k:=2) g fun a b s n s2 j e=>by
  rw [e] at h;simp only [mid,Ya,bM] at h;omega
theorem no3 (g:c.toNat=243) (h:s1.length<4):NoT (c :: s1) :=
 jb (k:=3) g fun a b s n s2 j e=>FP h e
theorem no5 (g:c.toNat=245) (h:s1.length<4\/s1.length - 4<n4 s1):NoT (c :: s1) :=
 jb (k:=5) g fun a b s n s2 j e=>by
  simp only [hd] at j;simp only [mid,Yk] at e;exact EK h ZP e
theorem Vp (g:c.toNat=245) (q:4<=s1.length) (h:s1.length<8+n4 s1):NoT (c :: s1) :=
 jb (k:=5) g fun a b s n s2 j e=>by
  simp only [hd] at j;have o:s.data.toList.length<4294967296:=ZP;simp only [mid,Yk] at e;rw [e,zf o] at h;simp only [Ya,bM] at h;omega
theorem no6 (g:c.toNat=246) (h:s1.length<4\/s1.length - 4<n4 s1):NoT (c :: s1) :=
 jb (k:=6) g fun a b s n s2 j e=>by
  simp only [hd] at j;simp only [mid,Yk] at e;exact EK h ZP e
theorem no8 (g:c.toNat=248) (h:s1=[]):NoT (c :: s1) :=
 jb (k:=8) g fun a b s n s2 j e=>by
  rw [h] at e;simp [mid] at e
theorem no9 (g:c.toNat=249) (h:s1.length<4):NoT (c :: s1) :=
 jb (k:=9) g fun a b s n s2 j e=>FP h e
theorem VF (g:c.toNat=250) (h:s1.length<4):NoT (c :: s1) :=
 jb (k:=10) g fun a b s n s2 j e=>FP h e
end
def Hed (k a b:Nat) (s:ByteArray) (n:Nat) (s1 s2:List UInt8):Prop:=hw k a b s n/\s1=mid k a b s.data.toList n++s2
section
variable {s1 : List UInt8}
theorem zzb7fx (h_:p_:=by
 obtain ⟨h1,h2⟩:=zP h4 hn;have h3:=jG s1;refine ⟨⟨rfl,rfl,rfl,by show ((s1.drop 4).take (n4 s1)).length<_;omega⟩,?_⟩;show s1=(q4 ((s1.drop 4).take (n4 s1)).length++(s1.drop 4).take (n4 s1))++_;rw [h1,Yk]
 exact h2):p_:=h_
theorem U0 (h4:4<=s1.length) (hn:n4 s1<=s1.length - 4):Hed 1 0 0 ⟨((s1.drop 4).take (n4 s1)).toArray⟩ 0 s1 (s1.drop (4+n4 s1)):=by
 exact zzb7fx
theorem U7 (h8:8<=s1.length):Hed 2 (n4 s1) (n4 (s1.drop 4)) eB 0 s1 (s1.drop 8):=by
 refine ⟨⟨jG _,jG _,rfl,rfl⟩,?_⟩;show s1=(q4 _++q4 _)++_;have h:=nu (s1:=s1) Z0;have g:=nu (s1:=s1.drop 4) (by rw [Yu];omega);rw [Yr] at g;rw [Yk,<- g];exact h
theorem Vs (g:4<=s1.length):Hed 3 (n4 s1) 0 eB 0 s1 (s1.drop 4):=⟨⟨jG _,rfl,rfl,rfl⟩,nu g⟩
theorem U1:Hed 4 0 0 eB 1 s1 s1:=⟨⟨rfl,rfl,rfl,rfl⟩,rfl⟩
theorem VJ:Hed 7 0 0 eB 1 s1 s1:=⟨⟨rfl,rfl,rfl,rfl⟩,rfl⟩
theorem VK (q:4<=s1.length) (h:8+n4 s1<=s1.length):Hed 5 0 0 ⟨((s1.drop 4).take (n4 s1)).toArray⟩ (n4 (s1.drop (4+n4 s1))) s1 (s1.drop (8+n4 s1)):=by
 obtain ⟨j,o⟩:=zP (s1:=s1) q Z0;have u:=jG s1;refine ⟨⟨rfl,rfl,jG _,by show ((s1.drop 4).take (n4 s1)).length<_;omega⟩,?_⟩;show s1=(q4 ((s1.drop 4).take (n4 s1)).length++((s1.drop 4).take (n4 s1)++q4 _))++_;have g:=nu (s1:=s1.drop (4+n4 s1)) (by rw [Yu];omega);rw [Yr,show 4+n4 s1+4=8+n4 s1 by omega] at g;rw [j,Yk,Yk,<- g];exact o
theorem Vf (h4:4<=s1.length) (hn:n4 s1<=s1.length - 4):Hed 6 0 0 ⟨((s1.drop 4).take (n4 s1)).toArray⟩ 2 s1 (s1.drop (4+n4 s1)):=by
 exact zzb7fx
theorem Vg {x:UInt8} {r:List UInt8}:Hed 8 0 x.toNat eB 3 (x :: r) r:=by
 refine ⟨⟨rfl,x.toNat_lt,rfl,rfl⟩,?_⟩;show x :: r=[UInt8.ofNat x.toNat]++r;rw [UInt8.ofNat_toNat];rfl
theorem Vd (g:4<=s1.length):Hed 9 0 (n4 s1) eB 2 s1 (s1.drop 4):=⟨⟨rfl,jG _,rfl,rfl⟩,nu g⟩
theorem TD (g:4<=s1.length):Hed 10 0 0 eB (n4 s1) s1 (s1.drop 4):=⟨⟨rfl,rfl,jG _,rfl⟩,nu g⟩
end
section
variable {c : UInt8} {k a b n : Nat} {s : ByteArray} {s1 s2 r : List UInt8} {l : List Tm}
theorem Hed.no (h:Hed k a b s n s1 s2) (j:c.toNat=240+k) (g:D8 n s2):NoT (c :: s1):=Ub j h.1 h.2 g
theorem Hed.not (h:Hed k a b s n s1 s2) (j:c.toNat=240+k) (v:eH l) (w:l.length=n) (o:s2=encs l++r) (q:¬ (hd k a b s n/\kids k l)):NoT (c :: s1):=by
 by_cases g:hd k a b s n
 ·exact Pj j h.1 h.2 v w o (fun u=>q ⟨g,u⟩)
 ·exact O7 j h.1 h.2 g
theorem Hed.nohd (h:Hed k a b s n s1 s2) (j:c.toNat=240+k) (g:¬ hd k a b s n):NoT (c :: s1):=O7 j h.1 h.2 g
theorem Hed.yes (h:Hed k a b s n s1 s2) (q:c.toNat=240+k) (u:k<=10) (v:eH l) (j:l.length=n) (o:s2=encs l++r) (g:hd k a b s n/\kids k l):good (.mk k a b s l)/\c :: s1=enc (.mk k a b s l)++r:=by
 refine ⟨?_,Qr q u h.2 j o⟩;simp only [good];rw [j];exact ⟨g.1,g.2,v⟩
end
theorem fF {s:List UInt8} {p:Nat} (h:p<s.length):s.drop p=s[p] :: s.drop (p+1):=List.drop_eq_getElem_cons h
theorem Ep {l:List Tm} (h:∀i (hi:i+1<l.length),tle l[i] l[i+1]):l.Pairwise tle:=by
 induction l with
 | nil=>exact List.Pairwise.nil
 | cons x l ih =>
  have o:=ih fun i hi=>by
   have:=h (i+1) (by simp;omega);simpa using this
  refine List.pairwise_cons.2 ⟨?_,o⟩
  cases l with
  | nil=>intro y g;simp at g
  | cons z l =>
   have j:tle x z:=by simpa using h 0 Z3
   intro y g;rcases Yz.1 g with rfl | g
   ·exact j
   ·exact zt j ((List.pairwise_cons.1 o).1 y g)
theorem Ij {x y:Tm}:tle x y↔tlt y x=false:=by
 unfold tle tlt;rw [decide_eq_false_iff_not];omega
theorem NF {x:Tm}:∀{l:List Tm} {j:Nat},l.Pairwise tle->j<=l.length->(∀k (h:k<l.length),j<=k->tlt x l[k]=true)->(∀k (h:k<l.length),k<j->tlt x l[k]=false)->ins x l=l.take j++x :: l.drop j
 | [],j,_,hj,_,_=>by
  obtain rfl:j=0:=by simpa using hj
  rfl
 | y :: l,0,_,_,h1,_=>by
  have:=h1 0 Z3 (Y2 _);simp only [List.getElem_cons_zero] at this;show (if tlt x y then _ else _)=_;rw [Y6 this];rfl
 | y :: l,j+1,hl,hj,h1,h2=>by
  have o:=h2 0 Z3 Z0;simp only [List.getElem_cons_zero] at o
  have u:=NF (x:=x) (List.pairwise_cons.1 hl).2 (j:=j) (by simpa using hj) (fun k q g=>by
   have:=h1 (k+1) (by simp;omega) Z0
   simpa using this) (fun k q g=>by
   have:=h2 (k+1) (by simp;omega) Z0
   simpa using this)
  show (if tlt x y then _ else _)=_;rw [Y5 (by rw [o];simp),u];rfl
theorem NB {x:Tm} {l:List Tm} (w:l.Pairwise tle) (u:j<l.length) (h:tlt x l[j]=false):∀k (o:k<l.length),k<j+1->tlt x l[k]=false:=by
 intro k o v;rcases Nat.lt_or_ge k j with g | g
 ·have q:=List.pairwise_iff_getElem.1 w k j o u g
  unfold tle at q;unfold tlt at h ⊢;rw [decide_eq_false_iff_not] at h ⊢;omega
 ·obtain rfl:k=j:=by omega
  exact h
theorem Pp {l:List Tm} (g:l.Pairwise tle) (hi:i+1<l.length):tlt l[i+1] l[i]=false:=Ij.1 (List.pairwise_iff_getElem.1 g i (i+1) Z0 hi Z0)
def iA (js:List Nat) (j x:Nat):List Nat:=js.take j++x :: js.drop j
theorem su (js:List Nat) (j x:Nat) (h:j<=js.length):(iA js j x).length=js.length+1:=by
 unfold iA;simp;omega
theorem Kz (js:List Nat) (x:Nat):iA js js.length x=js++[x]:=by simp [iA]
theorem xQ (h:j<=js.length):(iA js j x)[j]?=some x:=by
 unfold iA;rw [Ys (by simp;omega)];simp [Nat.min_eq_left h]
theorem xz {k:Nat} (h:j<=js.length) (g:k<j):(iA js j x)[k]?=js[k]?:=by
 unfold iA;rw [Yn (by simp;omega),List.getElem?_take_of_lt g]
theorem vP {k:Nat} (h:j<=js.length) (g:j<k):(iA js j x)[k]?=js[k - 1]?:=by
 unfold iA;rw [Ys (by simp;omega),Yq,Nat.min_eq_left h];rw [show k - j=(k - 1 - j)+1 by omega,Q2,List.getElem?_drop];congr 1;omega
theorem EO (h:j<js.length):((iA js (j+1) x).set (j+1) js[j]).set j x=iA js j x:=by
 refine List.ext_getElem? fun k=>?_
 have u:=su js (j+1) x h;have v:=su js j x Z0
 by_cases g:k=j
 ·subst g
  rw [List.getElem?_set_self (by rw [List.length_set,u];omega),xQ Z0]
 ·rw [List.getElem?_set_ne (fun e=>g e.symm)]
  by_cases o:k=j+1
  ·subst o
   rw [List.getElem?_set_self (by rw [u];omega),vP Z0 Z0];simp [h]
  ·rw [List.getElem?_set_ne (fun e=>o e.symm)]
   rcases Nat.lt_or_ge k j with q | q
   ·rw [xz Z0 Z0,xz Z0 q]
   ·rw [vP Z0 Z0,vP Z0 Z0]
theorem Gr {T l:List Tm} {x:Tm} (h:eF T l js) (o:T[g]?=some x) (j:Nat):eF T (l.take j++x :: l.drop j) (iA js j g):=by
 unfold eF at h ⊢;unfold iA;rw [List.map_append,List.map_cons,List.map_take,List.map_drop,h,o];simp [List.map_take,List.map_drop]
def uu (s:ByteArray) (p:Nat) (o:Option Tm) (p':Nat):Prop :=
 (o=none/\NoT (s.data.toList.drop p))\/∃t,o=some t/\good t/\s.data.toList.drop p=enc t++s.data.toList.drop p'
def jl (k a b:Nat) (s:ByteArray) (l:List Tm) (o:Option Tm):Prop :=
 (hd k a b s l.length/\kids k l->(enc (.mk k a b s l)).length<=131072->o=some (.mk k a b s l))/\(¬ (hd k a b s l.length/\kids k l)->o=none)
theorem tK {t:Tm} (h:(enc t).length<=131072):lim t=some t:=gV h
theorem BA (s:ByteArray) (hs:s.size<4294967296):jl 1 0 0 s [] (aM s) :=
 ⟨fun _ h=>tK h,fun h=>absurd ⟨⟨rfl,rfl,rfl,hs⟩,trivial⟩ h⟩
theorem zW (a b:Nat):jl 2 a b eB [] (kC a b):=by
 refine ⟨fun h _=>?_,fun h=>?_⟩
 ·have g:=h.1
  simp only [hd] at g;unfold kC okN;rw [Y6 (by simp;omega)];rfl
 ·unfold kC okN
  rw [Y5];intro j;simp only [YF,Yw] at j;exact h ⟨⟨Z0,Z0,rfl,rfl⟩,trivial⟩
theorem Gs (a:Nat):jl 3 a 0 eB [] (lh a):=by
 refine ⟨fun h _=>?_,fun h=>?_⟩
 ·have g:=h.1
  simp only [hd] at g;unfold lh okN;rw [Y6 (by simp;omega)];rfl
 ·unfold lh okN
  rw [Y5];intro j;simp only [YF,Yw] at j;exact h ⟨⟨Z0,rfl,rfl,rfl⟩,trivial⟩
theorem F3 (t:Tm):jl 4 0 0 eB [t] (pI (some t)):=by
 refine ⟨fun h _=>?_,fun h=>?_⟩
 ·have g:t.k=3:=by simpa [kids] using h.2
  unfold pI;simp only;rw [Y6 g]
 ·unfold pI
  simp only;rw [Y5];intro hk;exact h ⟨⟨rfl,rfl,rfl,rfl⟩,Xg⟩
theorem BS (alg:ByteArray) (t u:Tm):jl 6 0 0 alg [t,u] (jR alg (some t) (some u)):=by
 refine ⟨fun h o=>?_,fun h=>?_⟩
 ·have j:t.k=3:=by simpa [kids] using h.2
  have g:=h.1;simp only [hd] at g;unfold jR;simp only;rw [Y6 ⟨⟨g.2.2.2.1,g.2.2.2.2⟩,j⟩];exact tK o
 ·unfold jR
  simp only;rw [Y5];rintro ⟨⟨j,g⟩,hk⟩;exact h ⟨⟨rfl,rfl,rfl,j,g⟩,Xg⟩
theorem Bz (t:Tm):jl 7 0 0 eB [t] (mi (some t)) :=
 ⟨fun _ h=>tK h,fun h=>absurd ⟨⟨rfl,rfl,rfl,rfl⟩,trivial⟩ h⟩
theorem yg (c:Nat) (g:c<256) (t u v:Tm):jl 8 0 c eB [t,u,v] (qK c (some t) (some u) (some v)) :=
 ⟨fun _ h=>tK h,fun h=>absurd ⟨⟨rfl,g,rfl,rfl⟩,trivial⟩ h⟩
theorem Dz (n:Nat) (g:n<4294967296) (t u:Tm):jl 9 0 n eB [t,u] (Dv n (some t) (some u)) :=
 ⟨fun _ h=>tK h,fun h=>absurd ⟨⟨rfl,g,rfl,rfl⟩,trivial⟩ h⟩
theorem DT (l:List Tm) (hl:l.length<=32):jl 10 0 0 eB l (gB (l.map some)):=by
 refine ⟨fun _ h=>?_,fun h=>absurd ⟨⟨rfl,rfl,hl,rfl⟩,trivial⟩ h⟩;unfold gB;rw [Y6 Xu,oI];exact tK h
instance (x y:Tm):Decidable (tle x y):=inferInstanceAs (Decidable (_\/_))
def eU (g:ByteArray) (l:List Tm):Option Tm:=if (1<=g.size/\g.size<=2100)/\(∀x∈l,x.k=2)/\l.Pairwise tle then some (.mk 5 0 0 g l) else none
theorem nP (g:ByteArray) (l:List Tm) (u:l.length<=8):jl 5 0 0 g l (eU g l):=by
 refine ⟨fun h _=>?_,fun h=>?_⟩
 ·have j:=h.1
  simp only [hd] at j;unfold eU;rw [Y6 ⟨⟨j.2.2.2.1,j.2.2.2.2⟩,h.2⟩]
 ·unfold eU
  rw [Y5];rintro ⟨⟨j,o⟩,q⟩;exact h ⟨⟨rfl,rfl,u,j,o⟩,q⟩
section
variable {s : ByteArray} {p p' : Nat}
theorem gN (h:NoT (s.data.toList.drop p)):uu s p none p':=.inl ⟨rfl,h⟩
theorem lY (hs:s.size<=131072) {k a b n:Nat} {c:UInt8} {s1 s2:List UInt8} {l:List Tm} {o:Option Tm} (j:s.data.toList.drop p=c :: s1) (v:c.toNat=240+k) (C:k<=10)
  (h:Hed k a b s' n s1 s2) (w:eH l) (D:l.length=n) (q:s2=encs l++s.data.toList.drop p') (z:jl k a b s' l o):uu s p o p':=by
 subst D
 by_cases g:hd k a b s' l.length/\kids k l
 ·obtain ⟨A,u⟩:=h.yes v C w rfl q g
  refine .inr ⟨_,z.1 g ?_,A,j.trans u⟩;have B:=Ye List.length (j.trans u);rw [Ya,Yu,aC] at B;omega
 ·exact .inl ⟨z.2 g,by rw [j];exact h.not v w rfl q g⟩
theorem si {k a b n:Nat} {c:UInt8} {s1 s2:List UInt8} (g:s.data.toList.drop p=c :: s1) (o:c.toNat=240+k) (h:Hed k a b s' n s1 s2) (j:D8 n s2):uu s p none p' :=
 gN (by rw [g];exact h.no o j)
end
theorem PY {c:UInt8} {s1:List UInt8} (h:¬ (241<=c.toNat/\c.toNat<=250)):NoT (c :: s1):=by
 intro t r g e;obtain ⟨q,j⟩:=wJ t g;have o:=wH g;rw [j,YD,List.cons.injEq] at e;have:=Ye UInt8.toNat e.1;rw [UInt8.toNat_ofNat'] at this;omega
theorem DN {x:Tm} {l:List Tm} (w:l.Pairwise tle):(ins x l)[l.length]?=some x↔ins x l=l++[x]:=by
 constructor
 ·intro h
  induction l with
  | nil=>rfl
  | cons y l ih =>
   obtain ⟨o,q⟩:=List.pairwise_cons.1 w;unfold ins at h ⊢
   split at h
   ·rename_i g
    exfalso;simp only [Yv,Q2] at h;have u:x∈y :: l:=Yo h
    have v:tle y x:=by
     rcases Yz.1 u with j | j
     ·rw [j];unfold tle;omega
     ·exact o x j
    unfold tlt at g;unfold tle at v;simp only [Yw] at g;omega
   ·rename_i g
    rw [Y5 g];simp only [Yv,Q2] at h;rw [ih q h];rfl
 ·intro h
  rw [h];simp
theorem RS {x:Tm} {l:List Tm} (h:(l++[x]).Pairwise tle):ins x l=l++[x]:=by
 induction l with
 | nil=>rfl
 | cons y l ih =>
  rw [YD] at h;obtain ⟨j,o⟩:=List.pairwise_cons.1 h;unfold ins;rw [Y5,ih o]
  ·rfl
  ·intro g
   have q:=j x Z3;unfold tlt at g;unfold tle at q;simp only [Yw] at g;omega
theorem DF {x:Tm} {l:List Tm} (g:l.Pairwise tle):(ins x l=l++[x])↔(l++[x]).Pairwise tle:=by
 constructor
 ·intro h
  rw [<-h];exact wK g
 ·exact RS
theorem FQ {g:ByteArray} {l:List Tm} {x:Tm} (h:eU g l=some (.mk 5 0 0 g l)) (v:x.k=2) (h8:l.length<8) :
  Bu (some (.mk 5 0 0 g l)) (some x)=some (.mk 5 0 0 g (ins x l))/\((ins x l)[l.length]?=some x->ins x l=l++[x]/\eU g (l++[x])=some (.mk 5 0 0 g (l++[x])))/\((ins x l)[l.length]?≠some x->∀r,eU g (l++[x]++r)=none):=by
 have o:(1<=g.size/\g.size<=2100)/\(∀x∈l,x.k=2)/\l.Pairwise tle:=by
  unfold eU at h
  split at h
  ·assumption
  ·cases h
 refine ⟨?_,fun u=>?_,fun u r=>?_⟩
 ·exact Y6 ⟨rfl,v,h8⟩
 ·have q:=(DN o.2.2).1 u
  refine ⟨q,?_⟩
  have w:∀y∈l++[x],y.k=2:=by
   intro y j;rcases Yy.1 j with j | j
   ·exact o.2.1 y j
   ·rw [Ym] at j
    rw [j];exact v
  unfold eU;rw [Y6 ⟨o.1,w,(DF o.2.2).1 q⟩]
 ·unfold eU
  rw [Y5];rintro ⟨_,_,q⟩;exact u ((DN o.2.2).2 (RS (List.pairwise_append.1 q).1))
theorem vR (g:ByteArray):eU g []=pK g:=by
 unfold eU pK
 by_cases h:1<=g.size/\g.size<=2100
 ·rw [Y6 h,Y6 ⟨h,Z3,List.Pairwise.nil⟩]
 ·rw [Y5 h,Y5 (fun j=>h j.1)]
theorem ED {g:ByteArray} {l:List Tm} {x:Tm} (o:x∈l) (h:x.k≠2):eU g l=none:=by
 unfold eU;rw [Y5];rintro ⟨_,j,_⟩;exact h (j x o)
theorem Dt {g:ByteArray} {l:List Tm} (h:pK g=none):eU g l=none:=by
 unfold eU;rw [Y5];rintro ⟨j,_⟩;unfold pK at h;rw [Y6 j] at h;cases h
def aY (l:List UInt8):List UInt8:=l.dropWhile (· == 0)
def dW (l:List UInt8):List UInt8:=match l with
 | []=>[]
 | c :: r=>if 128<=c.toNat then 0 :: c :: r else c :: r
def dY (l:List UInt8):List UInt8:=q4 (dW (aY l)).length++dW (aY l)
def dU (l:List UInt8):Bool:=match l with
 | []=>false
 | c :: _=>c == 0
theorem iT {l:List UInt8} (h:dU l=false):aY l=l:=by
 cases l with
 | nil=>rfl
 | cons c r =>
  unfold aY;rw [List.dropWhile_cons_of_neg];simpa [dU] using h
theorem kK (l:List UInt8):(aY l).length<=l.length:=by
 have h:=Ye List.length (List.takeWhile_append_dropWhile (p:=fun c:UInt8=>c == 0) (l:=l));rw [Ya] at h;unfold aY;omega
theorem o8 (l:List UInt8):(dW l).length<=l.length+1:=by
 unfold dW
 split
 ·simp
 ·split <;> simp
structure Uv where
 v0:ByteArray
 v1:ByteArray
 v2:ByteArray
 v3:ByteArray
 key:Option Tm
 e:Option Tm
 f:Option Tm
 k:Option Tm
 asks:Bool
 w0:Nat
 w1:Nat
 w2:Nat
 gp:ByteArray
 gg:ByteArray
end Go.Proofs.YtnhekaepgpbijaaGreatDoor
namespace Go.Proofs.YtnhekaepgpbijaaGreatDoor
open Go.Proofs.Tryz Go.RowKit Go.ChangeShapes Go.WideShapes Go.Sort
variable {r:ByteArray} {l m:List UInt8} {o:Option Tm} {p_:Prop} {k:Nat} {w:World} {v:Value} {ls:List (List UInt8)} {os:List (Option Tm)}
def bs (l:List UInt8):ByteArray:=⟨l.toArray⟩
theorem aO (l:List UInt8):(bs l).data.toList=l:=rfl
theorem Pd (s:ByteArray):bs s.data.toList=s:=rfl
theorem kG (h:r.data.toList=l):r=bs l:=by rw [<-h];rfl
@[go_sem] theorem aI (l:List UInt8):(bs l).size=l.length:=rfl
@[go_sem] theorem Gg (l m:List UInt8):bs l++bs m=bs (l++m):=kG (by rw [data_append,aO,aO])
theorem sN (h:bs l=bs m):l=m:=by rw [<-aO l,h,aO]
theorem ay (l:List UInt8):(bs l).toList=l:=ByteArray.toList_eq _
theorem zR (h:r.data.toList=l):Ending.returned (.string r)=.returned (.string (bs l)):=by rw [kG h]
theorem zm (n:Nat):UInt8.ofNat (n % 256)=UInt8.ofNat n:=by
 apply UInt8.toNat_inj.1;simp
def tx (o:Option Tm):ByteArray:=bs (txt o)
theorem Sv:tx none=⟨#[]⟩:=rfl
theorem UE (h:bD o):(txt o).length<=131072:=by
 cases o with
 | none=>exact Yb _
 | some t=>exact (h t rfl).2
def Says (l:List UInt8) (w:World) (e:Ending) (w':World):Prop:=e=.returned (.string (bs l))/\Below w.heap.size w w'
theorem zze28 (h_:p_:=by
 have e2:((n:Int) / 65536 % 256).toNat=n / 65536 % 256:=by omega
 have e3:((n:Int) / 256 % 256).toNat=n / 256 % 256:=by omega
 have e4:((n:Int) % 256).toNat=n % 256:=by omega
 simp only [List.map_cons,List.map_nil,e1,e2,e3,e4,zm]):p_:=h_
theorem kJ (n:Nat) (w:World) (h:n<4294967296):Calls prog 87 #[.int .i64 n] w (Says (q4 n) w):=by
 have g:(0:Int)<=n:=Z0;go_enter func87,ntmps87;go_wp2;go_ret;refine ⟨zR ?_,Z4⟩;rw [strOfNums_data,q4];have e1:((n:Int) / 16777216 % 256).toNat=n / 16777216 % 256:=Z0;exact zze28
theorem O6 (k:Nat) (w:World) (j:k<=15):Calls prog 86 #[.int .i64 k] w (Says [UInt8.ofNat (240+k)] w):=by
 have h:(0:Int)<=k:=Z0;have o:(k:Int)<=15:=Z0;go_enter func86,ntmps86;go_wp2;go_ret;refine ⟨zR ?_,Z4⟩;rw [strOfNums_data];have g:(240+(k:Int)).toNat=240+k:=Z0;simp only [List.map_cons,List.map_nil,g]
def vz (l:List UInt8):List UInt8:=if l.length<=131072 then l else []
attribute [go_sem] bM
theorem tX (l:List UInt8) (w:World) (h:l.length<=1000000000):Calls prog 85 #[.string (bs l)] w (Says (vz l) w):=by
 unfold vz
 by_cases g:l.length<=131072
 ·rw [Y6 g]
  have hi:¬ (131072:Int)<l.length:=Z0;go_enter func85,ntmps85;go_wp2;go_ret;exact ⟨rfl,Z4⟩
 ·rw [Y5 g]
  have hi:(131072:Int)<l.length:=Z0;go_enter func85,ntmps85;go_wp2;go_ret;exact ⟨rfl,Z4⟩
theorem zz5d2 (h_:p_:=by
 go_wp2
 all_goals go_ret
 all_goals exact ⟨gD (by unfold okN;(first | (simp_all;done) | (simp_all;omega) | (rw [Bool.eq_iff_iff];simp_all;done) | (rw [Bool.eq_iff_iff];simp_all;omega))),rfl⟩):p_:=h_
theorem jC (n:Int) (w:World):Calls prog 209 #[.int .i64 n] w fun e w'=>e=.returned (.bool (okN n))/\w=w':=by
 go_enter func209,ntmps209;exact zz5d2
theorem rT (s:ByteArray) (m:Int) (w:World) (hs:s.size<=9223372036854775807):Calls prog 295 #[.string s,.int .i64 m] w fun e w'=>e=.returned (.bool (decide (1<=s.size/\(s.size:Int)<=m)))/\w=w':=by
 go_enter func295,ntmps295;go_wp2
 all_goals go_ret
 all_goals exact ⟨gD (by (first | (simp_all;done) | (simp_all;omega) | (rw [Bool.eq_iff_iff];simp_all;done) | (rw [Bool.eq_iff_iff];simp_all;omega))),rfl⟩
def lG (o:Option Tm):Nat:=match o with
 | some t=>t.k
 | none=>0
theorem OQ (h:bD o):o=none\/∃t r,o=some t/\txt o=UInt8.ofNat (240+t.k) :: r/\1<=t.k/\t.k<=10:=by
 cases o with
 | none=>exact .inl rfl
 | some t =>
  obtain ⟨r,g⟩:=wJ t (h t rfl).1;exact .inr ⟨t,r,rfl,g,wH (h t rfl).1⟩
theorem iU (h:bD o) (w:World):Calls prog 196 #[.string (tx o)] w fun e w'=>e=.returned (.int .i64 (lG o))/\w=w':=by
 rcases OQ h with rfl | ⟨t,r,rfl,q,D,F⟩
 ·rw [Sv]
  go_enter func196,ntmps196;go_wp2;go_ret;exact ⟨rfl,rfl⟩
 ·have j:=UE h
  unfold tx;rw [q] at j ⊢;have A:0<(bs (UInt8.ofNat (240+t.k) :: r)).size:=X6;have p:(bs (UInt8.ofNat (240+t.k) :: r)).size<=131072:=by rw [aI];exact j
  have g:(bs (UInt8.ofNat (240+t.k) :: r))[0].toNat=240+t.k:=by
   show (UInt8.ofNat (240+t.k)).toNat=_;rw [UInt8.toNat_ofNat'];omega
  generalize bs (UInt8.ofNat (240+t.k) :: r)=s at A p g;have v:(241:Int)<=(s[0].toNat:Int):=Z0;have z:(s[0].toNat:Int)<=250:=Z0;have u:=hide g;clear j q h g;have B:(0:Int)<(s.size:Int):=Z0;have C:((s.size:Int) == 0)=false:=Y3.2 Z0;go_enter func196,ntmps196;go_wp2_with fail;go_ret;exact ⟨oN (by have:=u.out;show _=((t.k:Nat):Int);omega),rfl⟩
theorem CP (s:ByteArray):[UInt8.ofNat (240+1)]++q4 s.size++s.data.toList=enc (.mk 1 0 0 s []):=by
 simp [enc,head,mid,encs]
theorem Mt (t:Tm):vz (enc t)=txt (lim t):=by
 unfold lim vz
 split <;> rfl
theorem oW (h:l=m):Ending.returned (.string (bs l))=.returned (.string (bs m)):=by rw [h]
theorem Bf (t:Tm):(bs (enc t)).toList.isEmpty=false:=by
 rw [ay]
 cases e:enc t with
 | nil=>exact absurd e (qc t)
 | cons=>rfl
theorem oJ (k:Nat) (n:Int) (h:n=k) (w:World) (g:k<=15):Calls prog 86 #[.int .i64 n] w (Says [UInt8.ofNat (240+k)] w):=by
 subst h;exact O6 k w g
theorem Ab {t:Tm} (h:l=enc t):vz l=txt (lim t):=by
 subst h;exact Mt t
theorem sF (l:List UInt8) (w:World) (h:l.length<=1000000000):Calls prog 41 #[.string (bs l)] w (Says (txt (aM (bs l))) w):=by
 by_cases r:l.length<=131072
 ·have hi:¬ (131072:Int)<l.length:=by omega
  have HT:=hide (fun W=>oJ 1 1 rfl W Z0);have j:=hide (fun W=>kJ l.length W Z0);have g:=hide (fun W=>tX ([UInt8.ofNat (240+1)]++q4 l.length++l) W (by simp [bM];omega));go_enter func41,ntmps41
  go_wp2_with (first
   | (go_at_call 86;refine (HT.out _).mono ?_;rintro e w1 ⟨rfl,p⟩)
   | (go_at_call 87;refine (j.out _).mono ?_;rintro e w2 ⟨rfl,q⟩)
   | (go_at_call 85;refine (g.out _).mono ?_;rintro e w3 ⟨rfl,hb3⟩))
  go_ret;exact ⟨oW (Ab (CP (bs l))),Z4⟩
 ·have hi:(131072:Int)<l.length:=by omega
  have o:=hide (show txt (aM (bs l))=[] by
   unfold aM lim;rw [Y5]
   ·rfl
   ·rw [<-CP,aI,aO]
    simp [bM]
    omega)
  rw [o.out];go_enter func41,ntmps41;go_wp2;go_ret;exact ⟨rfl,Z4⟩
theorem Rq {n:Int} (h:okN n=true):∃a:Nat,n=a/\a<2147483648:=by
 have:=iD.1 h;exact ⟨n.toNat,Z0,Z0⟩
theorem Di (g:Int) (w:World):Calls prog 136 #[.int .i64 g] w (Says (txt (lh g)) w):=by
 have j:=hide (fun W=>jC g W)
 cases h:okN g with
 | false =>
  have o:=hide (show lh g=none by unfold lh;rw [h];rfl);rw [o.out];rw [h] at j;go_enter func136,ntmps136;go_wp2_with (go_at_call 209;(with_reducible refine (j.out _).mono ?_);rintro e w1 ⟨rfl,rfl⟩);go_ret;exact ⟨rfl,Z4⟩
 | true =>
  have o:=hide (show lh g=some (.mk 3 g.toNat 0 eB []) by unfold lh;rw [h];rfl);obtain ⟨a,rfl,u⟩:=Rq h;rw [h] at j;have HT:=hide (fun W=>oJ 3 3 rfl W Z0);have p:=hide (fun W=>kJ a W Z0);clear h;go_enter func136,ntmps136
  go_wp2_with (first
   | (go_at_call 209;(with_reducible refine (j.out _).mono ?_);rintro e w1 ⟨rfl,rfl⟩)
   | (go_at_call 86;refine (HT.out _).mono ?_;rintro e w1 ⟨rfl,q⟩)
   | (go_at_call 87;(with_reducible refine (p.out _).mono ?_);rintro e w2 ⟨rfl,r⟩))
  go_ret;rw [o.out];exact ⟨oW (by simp [txt,enc,head,mid,encs]),Z4⟩
theorem wR (g:k≠0):nK o k=((lG o:Int) == k):=by
 cases o with
 | none=>simp [nK,lG];omega
 | some t=>rfl
theorem Oa (h:bD o) (w:World):Calls prog 135 #[.string (bs (txt o))] w (Says (txt (pI o)) w):=by
 have HK:=hide (fun W=>iU h W);have g:=wR (o:=o) (k:=3) Z0
 cases j:nK o 3 with
 | false =>
  have p:=hide (show txt (pI o)=[] by rw [IP j];rfl);rw [p.out]
  have v:((lG o:Int) != 3)=true:=by
   rw [show nK o ((3:Nat):Int)=nK o 3 from rfl,j] at g;simp only [bne,Bool.not_eq_true'];exact g.symm
  clear j g h;go_enter func135,ntmps135;go_wp2_with (go_at_call 196;refine (HK.out _).mono ?_;rintro e w1 ⟨rfl,rfl⟩);go_ret;exact ⟨rfl,Z4⟩
 | true =>
  obtain ⟨t,rfl,q⟩:=jk (k:=3) j
  have p:=hide (show txt (pI (some t))=[UInt8.ofNat (240+4)]++enc t by
   show txt (if t.k=3 then _ else none)=_;rw [Y6 q]
   simp [txt,enc,head,mid,encs])
  rw [p.out]
  have v:((lG (some t):Int) != 3)=false:=by
   show ((t.k:Int) != 3)=false;rw [q];rfl
  have HT:=hide (fun W=>oJ 4 4 rfl W Z0);have r:=(h t rfl).2;change Calls prog 135 #[.string (bs (enc t))] w _;clear j g h q;go_enter func135,ntmps135
  go_wp2_with (first
   | (go_at_call 196;refine (HK.out _).mono ?_;rintro e w1 ⟨rfl,rfl⟩)
   | (go_at_call 86;refine (HT.out _).mono ?_;rintro e w1 ⟨rfl,u⟩))
  go_ret;exact ⟨oW rfl,Z4⟩
def Txs (w:World) (v:Value) (ls:List (List UInt8)):Prop:=Strs 0 w v (ls.map bs)
theorem Txs.below {w':World} (h:Txs w v ls) (g:Below w.heap.size w w'):Txs w' v ls:=Strs.below h g
theorem IV (w:World) (c:Nat):Txs w (.slice none 0 c) []:=⟨none,c,rfl,Sl.nil_⟩
theorem Txs.open_ (h:Txs w v ls):∃A c,v=.slice A ls.length c/\∀k,(hk:k<ls.length)->∃g,A=some g/\g.block<w.heap.size/\w.cell? (g.add k)=some (.string (bs ls[k])):=by
 obtain ⟨A,c,rfl,hs⟩:=h;refine ⟨A,c,Z3,fun k hk=>?_⟩;obtain ⟨g,j,o,p⟩:=hs.str (k:=k) Xd;exact ⟨g,j,o,by simpa using p⟩
theorem zz6cc (h_:p_:=by
 clear hk;go_enter func261,ntmps261
 go_wp2_with (first
  | (go_at_call 295;refine (HX.out _).mono ?_;rintro e w1 ⟨rfl,rfl⟩)
  | (go_at_call 196;refine (HK.out _).mono ?_;rintro e w1 ⟨rfl,rfl⟩))
 go_ret
 exact ⟨rfl,by exact ae⟩):p_:=h_
theorem Lu (l:List UInt8) {p:Option Tm} (z:bD o) (hp:bD p) (w:World) (h:l.length<=100000000):Calls prog 261 #[.string (bs l),.string (bs (txt o)),.string (bs (txt p))] w (Says (txt (jR (bs l) o p)) w):=by
 have HX:=hide (fun W=>rT (bs l) 64 W ZJ);have HK:=hide (fun W=>iU z W)
 by_cases A:1<=l.length/\l.length<=64
 ·have hd:decide (1<=(bs l).size/\((bs l).size:Int)<=64)=true:=Y8 ZJ
  rw [hd] at HX;clear hd
  by_cases hk:lG o=3
  ·have B:((lG o:Int) != 3)=false:=by rw [hk];rfl
   cases p with
   | none =>
    have g:=hide (show txt (jR (bs l) o none)=[] by cases o <;> rfl);rw [g.out];change Calls prog 261 #[.string (bs l),.string (bs (txt o)),.string ⟨#[]⟩] w _;exact zz6cc
   | some u =>
    cases o with
    | none=>simp [lG] at hk
    | some t =>
     have g:=hide (show jR (bs l) (some t) (some u)=lim (.mk 6 0 0 (bs l) [t,u]) by
      show (if _ then _ else none)=_
      rw [Y6 ⟨by rw [aI];exact A,hk⟩])
     rw [g.out];have r:=(z t rfl).2;have v:=(hp u rfl).2;have D:=Bf u;have HT:=hide (fun W=>oJ 6 6 rfl W Z0);have C:=hide (fun W=>kJ l.length W Z0);have j:=hide (fun W=>tX (UInt8.ofNat (240+6) :: (q4 l.length++(l++(enc t++enc u)))) W (by simp [bM];omega));have q:=hide (show vz (UInt8.ofNat (240+6) :: (q4 l.length++(l++(enc t++enc u))))=txt (lim (.mk 6 0 0 (bs l) [t,u])) from Ab (by simp [enc,encs,head,mid,aO]));change Calls prog 261 #[.string (bs l),.string (bs (enc t)),.string (bs (enc u))] w _
     have HK2:Hid (∀W,Calls prog 196 #[.string (bs (enc t))] W fun e w'=>e=.returned (.int .i64 (3:Int))/\W=w'):=fun W=>by
      have h9:=iU (o:=some t) z W;rw [hk] at h9;exact h9
     clear hk HK B;generalize enc t=I at r j q HK2;generalize enc u=J at v j q D;go_enter func261,ntmps261
     go_wp2_with (first
      | (go_at_call 295;refine (HX.out _).mono ?_;rintro e w1 ⟨rfl,rfl⟩)
      | (go_at_call 196;refine (HK2.out _).mono ?_;rintro e w1 ⟨rfl,rfl⟩)
      | (go_at_call 86;refine (HT.out _).mono ?_;rintro e w1 ⟨rfl,F⟩)
      | (go_at_call 87;refine (C.out _).mono ?_;rintro e w2 ⟨rfl,G⟩)
      | (go_at_call 85;refine (j.out _).mono ?_;rintro e w3 ⟨rfl,hb3⟩))
     go_ret;exact ⟨oW q.out,Z4⟩
  ·have B:((lG o:Int) != 3)=true:=by rw [YG];omega
   have g:=hide (show txt (jR (bs l) o p)=[] by
    rw [qJ (.inr ?_)]
    ·rfl
    ·rw [show nK o 3=nK o ((3:Nat):Int) from rfl,wR Z0]
     exact Y3.2 Z0)
   rw [g.out];exact zz6cc
 ·have hd:decide (1<=(bs l).size/\((bs l).size:Int)<=64)=false:=Y7 ZJ
  rw [hd] at HX
  have g:=hide (show txt (jR (bs l) o p)=[] by
   rw [qJ (.inl (by rw [aI];exact A))]
   rfl)
  rw [g.out];clear hd;go_enter func261,ntmps261;go_wp2_with (go_at_call 295;refine (HX.out _).mono ?_;rintro e w1 ⟨rfl,rfl⟩);go_ret;exact ⟨rfl,Z4⟩
theorem LF (r:bD o) (w:World):Calls prog 40 #[.string (bs (txt o))] w (Says (txt (mi o)) w):=by
 cases o with
 | none =>
  change Calls prog 40 #[.string ⟨#[]⟩] w (Says [] w);go_enter func40,ntmps40;go_wp2;go_ret;exact ⟨rfl,Z4⟩
 | some t =>
  have g:=(r t rfl).2;have p:=Bf t;have HT:=hide (fun W=>oJ 7 7 rfl W Z0);have h:=hide (fun W=>tX ([UInt8.ofNat (240+7)]++enc t) W (by simp;omega));have j:=hide (show vz ([UInt8.ofNat (240+7)]++enc t)=txt (lim (.mk 7 0 0 eB [t])) from Ab (by simp [enc,encs,head,mid]));change Calls prog 40 #[.string (bs (enc t))] w (Says (txt (lim (.mk 7 0 0 eB [t]))) w);generalize enc t=u at g h j p;go_enter func40,ntmps40
  go_wp2_with (first
   | (go_at_call 86;refine (HT.out _).mono ?_;rintro e w1 ⟨rfl,q⟩)
   | (go_at_call 85;refine (h.out _).mono ?_;rintro e w3 ⟨rfl,hb3⟩))
  go_ret;exact ⟨oW j.out,Z4⟩
@[go_sem] theorem VT (c:Nat):strOfNums [(c:Int)]=bs [UInt8.ofNat c]:=kG (by rw [strOfNums_data];simp)
theorem OW {r:List Tm} (h:os.length<=32) (g:os=r.map some):gB os=lim (.mk 10 0 0 eB r):=by
 unfold gB;rw [Y6 h,g,oI]
theorem EP (h:none∈os):gB os=none:=by
 unfold gB
 split
 ·rw [zO h]
 ·rfl
def iY (n:Nat):List UInt8:=UInt8.ofNat (240+10) :: q4 n
theorem qi (n:Nat):(iY n).length=5:=rfl
theorem wI (r:List Tm):enc (.mk 10 0 0 eB r)=iY r.length++encs r:=by simp [enc,head,mid,iY]
theorem LK {r:List Tm} (g:os.take k=r.map some) (h:131072<5+(encs r).length):gB os=none:=by
 unfold gB
 split
 ·cases e:sH os with
  | none=>rfl
  | some m =>
   have p:=nR e
   have j:m.take k=r:=by
    rw [p,<- List.map_take] at g;exact (List.map_inj_right fun _ _ e=>by injection e).1 g
   have o:encs m=encs r++encs (m.drop k):=by
    rw [<-j,<- iQ,List.take_append_drop]
   show lim _=none;unfold lim;rw [Y5];rw [wI,Ya,qi,o,Ya];omega
 ·rfl
theorem LU (R:Txs w v (os.map txt)) (T:∀o∈os,bD o) (h1:os.length<=1000000000) :
  Calls prog 296 #[v] w (Says (txt (gB os)) w):=by
 obtain ⟨A,c,rfl,N⟩:=R.open_;simp only [Yd] at N ⊢
 by_cases D:os.length<=32
 ·have HC:=hide N
  have HT:=hide (fun W=>oJ 10 10 rfl W Z0);have HU:=hide (fun W=>kJ os.length W Z0);have Hf:=hide T;have hi:¬ (32:Int)<os.length:=Z0;clear R N T;go_enter func296,ntmps296
  go_wp2_with (first
   | (go_at_call 86;refine (HT.out _).mono ?_;rintro e w1 ⟨rfl,ab⟩)
   | (go_at_call 87;refine (HU.out _).mono ?_;rintro e w2 ⟨rfl,ac⟩))
  go_loopw [4,3] (fun i s wr=>∃(k:Nat) (r:List Tm),k<=os.length/\i=.int .i64 k/\s=.string (bs (iY os.length++encs r))/\Hid (os.take k=r.map some)/\5+(encs r).length<=131072/\w2=wr) (fun i _ _=>os.length - (intOf i).toNat)
  case atStart=>exact ⟨0,[],Yb _,rfl,by simp [encs,iY],hide rfl,by simp [encs],rfl⟩
  case round =>
   obtain ⟨k,r,hk,rfl,rfl,Y,aa,rfl⟩:=hrel
   by_cases j:k<os.length
   ·have X:(k:Int)<os.length:=by omega
    obtain ⟨Q,rfl,S,G⟩:=HC.out k (by simpa using j)
    have h:w2.cell? (Q.add k)=some (.string (bs (txt os[k]))):=by
     have h9:=jA (w:=w) (B:=w.heap.size) (w':=w2) Z4 S G;simpa using h9
    clear G
    cases e:os[k] with
    | none =>
     have p:=hide (show txt (gB os)=[] by
      rw [EP (by rw [<-e];exact Yf j)]
      rfl)
     rw [p.out];rw [e] at h;change w2.cell? (Q.add k)=some (.string ⟨#[]⟩) at h;clear e;go_wp2;go_ret;exact ⟨rfl,Z4⟩
    | some t =>
     have U:=(Hf.out _ (Yf j) t e).2;have hE:=Bf t;rw [e] at h;change w2.cell? (Q.add k)=some (.string (bs (enc t))) at h
     have C:=hide (show os.take (k+1)=(r++[t]).map some by
      rw [Yh j,Y.out,e]
      simp)
     have u:=iQ r [t];have I:encs [t]=enc t:=by simp [encs]
     rw [I] at u;have z:=hide u;clear e u I;have V:=qi os.length;have J:(iY os.length++encs r).length<=131072:=by rw [Ya,V];omega
     have g:(iY os.length++encs r++enc t).length=5+(encs (r++[t])).length:=by
      rw [z.out,Ya,Ya,V,Ya];omega
     have L:=hide (show iY os.length++encs r++enc t=iY os.length++encs (r++[t]) by rw [z.out,Yk]);rw [Ya] at g;clear V;generalize enc t=Z at U hE h g L
     by_cases F:5+(encs (r++[t])).length<=131072
     ·have q:¬ (131072:Int)<((iY os.length++encs r).length:Int)+(Z.length:Int):=by omega
      generalize iY os.length++encs r=hp at J g L q;have P:=hide g;clear g;go_wp2;exact ⟨⟨k+1,r++[t],j,Zr,by rw [L.out],C,F,trivial⟩,Zh⟩
     ·have q:(131072:Int)<((iY os.length++encs r).length:Int)+(Z.length:Int):=by omega
      have p:=hide (show txt (gB os)=[] by
       rw [LK C.out Z0]
       rfl)
      rw [p.out];generalize iY os.length++encs r=hp at J g L q;have P:=hide g;clear g;go_wp2;go_ret;exact ⟨rfl,Z4⟩
   ·have X:¬ (k:Int)<os.length:=by omega
    obtain rfl:k=os.length:=Z0;have O:=Y.out;rw [List.take_length] at O;have K:r.length=os.length:=by rw [O];simp
    have p:=hide (show txt (gB os)=iY os.length++encs r by
     rw [OW D O,lim,Y6 (by rw [wI,Ya,qi];omega)];show enc _=_
     rw [wI,K])
    clear O K;go_wp2;go_ret;exact ⟨oW p.out.symm,Z4⟩
 ·have p:=hide (show txt (gB os)=[] by rw [xu D];rfl)
  rw [p.out];have hi:(32:Int)<os.length:=Z0;clear R N T;go_enter func296,ntmps296;go_wp2;go_ret;exact ⟨rfl,Z4⟩
end Go.Proofs.YtnhekaepgpbijaaGreatDoor

namespace Go.Proofs.YtnhekaepgpbijaaGreatDoor
open Go.Proofs.Tryz Go.RowKit Go.ChangeShapes Go.WideShapes
section
variable {w : World}
theorem xm (n:Nat) (w:World) (h:n<4294967296):Calls prog 200 #[.int .u32 n] w (Says (q4 n) w):=by
 have g:(0:Int)<=n:=Z0;go_enter func200,ntmps200;go_wp2;go_ret;refine ⟨zR ?_,Z4⟩;rw [strOfNums_data,q4];have e1:((n:Int) / 16777216).toNat=n / 16777216:=Z0;exact zze28
end
end Go.Proofs.YtnhekaepgpbijaaGreatDoor

namespace Go.Proofs.YtnhekaepgpbijaaGreatDoor
open Go.Proofs.Tryz Go.RowKit Go.ChangeShapes Go.WideShapes Go.Sort
end Go.Proofs.YtnhekaepgpbijaaGreatDoor

namespace Go.Proofs.YtnhekaepgpbijaaGreatDoor
open Go.Proofs.Tryz Go.RowKit Go.ChangeShapes Go.WideShapes
variable {n:Nat}
theorem VC {s:ByteArray} {p:Nat} (h:p+4<=s.size):s.data.toList.drop p=s[p] :: s[p+1] :: s[p+2] :: s[p+3] :: s.data.toList.drop (p+4):=by
 have g:s.data.toList.length=s.size:=rfl;rw [fF (p:=p) Z0,fF (p:=p+1) Z0,fF (p:=p+1+1) Z0,fF (p:=p+1+1+1) Z0];rfl
theorem Io (s:ByteArray) (p:Nat) (w:World) (hp:p<=1000000000) (hs:s.size<=1000000000) (h:s.size<p+4):Calls prog 298 #[.string s,.int .i64 p] w fun e w'=>e=.returned (.tuple #[.int .i64 0,.bool false])/\Below w.heap.size w w':=by
 have hi:((s.size:Int) - (p:Int))<4:=Z0;go_enter func298,ntmps298;go_wp2;go_ret2;exact ⟨rfl,Z4⟩
theorem vH (s:ByteArray) (p:Nat) (w:World) (hp:p<=1000000000) (hs:s.size<=1000000000) (h:p+4<=s.size):Calls prog 298 #[.string s,.int .i64 p] w fun e w'=>e=.returned (.tuple #[.int .i64 (n4 (s.data.toList.drop p)),.bool true])/\Below w.heap.size w w':=by
 have hi:¬ ((s.size:Int) - (p:Int))<4:=Z0;have I:(p:Int)<s.size:=Z0;have J:(p:Int)+1<s.size:=Z0;have K:(p:Int)+2<s.size:=Z0;have L:(p:Int)+3<s.size:=Z0;have w1:IntKind.i64.wrap ((p:Int)+1)=(p:Int)+1:=Zb;have w2:IntKind.i64.wrap ((p:Int)+2)=(p:Int)+2:=Zb;have w3:IntKind.i64.wrap ((p:Int)+3)=(p:Int)+3:=Zb;go_enter func298,ntmps298;go_wp2;have p0:(0:Int)<=p:=Z0;have N:(0:Int)<=(p:Int)+1:=Z0;have O:(0:Int)<=(p:Int)+2:=Z0;have P:(0:Int)<=(p:Int)+3:=Z0;have D:((p:Int)+1).toNat=p+1:=Z0;have F:((p:Int)+2).toNat=p+2:=Z0;have G:((p:Int)+3).toNat=p+3:=Z0;refine wp_region_quiet_lit Z1 Z1 ?_
 repeat quiet_step (fail)
 refine wpQuiet_nil ?_;intro _ q;obtain ⟨nq,j⟩:=q;subst j;go_wp2;go_ret2;refine ⟨?_,Z4⟩;have v:=s[p].toNat_lt;have b1:=s[p+1].toNat_lt;have b2:=s[p+2].toNat_lt;have z:=s[p+3].toNat_lt;rw [VC h,n4];generalize s[p].toNat=g at v ⊢;generalize s[p+1].toNat=x1 at b1 ⊢;generalize s[p+2].toNat=x2 at b2 ⊢;generalize s[p+3].toNat=o at z ⊢;have r:IntKind.i64.wrap (g:Int)=g:=Zb;have a1:IntKind.i64.wrap (x1:Int)=x1:=Zb;have a2:IntKind.i64.wrap (x2:Int)=x2:=Zb;have u:IntKind.i64.wrap (o:Int)=o:=Zb;have c0:IntKind.i64.wrap ((g:Int)*16777216)=(g:Int)*16777216:=Zb;have c1:IntKind.i64.wrap ((x1:Int)*65536)=(x1:Int)*65536:=Zb;have c2:IntKind.i64.wrap ((x2:Int)*256)=(x2:Int)*256:=Zb;have A:IntKind.i64.wrap ((g:Int)*16777216+(x1:Int)*65536)=(g:Int)*16777216+(x1:Int)*65536:=Zb;have B:IntKind.i64.wrap ((g:Int)*16777216+(x1:Int)*65536+(x2:Int)*256)=(g:Int)*16777216+(x1:Int)*65536+(x2:Int)*256:=Zb;have C:IntKind.i64.wrap ((g:Int)*16777216+(x1:Int)*65536+(x2:Int)*256+(o:Int))=(g:Int)*16777216+(x1:Int)*65536+(x2:Int)*256+(o:Int):=Zb;simp only [r,a1,a2,u,c0,c1,c2,A,B,C];congr 5
theorem AX (s:ByteArray) (a b:Nat):s.extract a b=bs ((s.data.toList.drop a).take (b - a)):=kG (by rw [Lib.extract_data])
theorem zz270 {p_:Prop} (h_:p_:=by
 clear h;go_enter func297,ntmps297;go_wp2_with (go_at_call 298;refine (HN.out _).mono ?_;rintro e w1 ⟨rfl,hb1⟩);go_ret3
 exact ⟨rfl,by exact ae⟩):p_:=h_
theorem Ru (s:ByteArray) (p:Nat) (w:World) (hp:p<=1000000000) (hs:s.size<=1000000000) (h:s.size<p+4\/s.size<p+4+n4 (s.data.toList.drop p)):Calls prog 297 #[.string s,.int .i64 p] w fun e w'=>e=.returned (.tuple #[.string ⟨#[]⟩,.int .i64 p,.bool false])/\Below w.heap.size w w':=by
 by_cases g:s.size<p+4
 ·have HN:=hide (fun W=>Io s p W hp hs g)
  exact zz270
 ·have HN:=hide (fun W=>vH s p W hp hs Z0)
  have j:s.size<p+4+n4 (s.data.toList.drop p):=Z0;have o:=jG (s.data.toList.drop p);generalize n4 (s.data.toList.drop p)=n at HN j o;have hi:(s.size:Int) - (p:Int) - 4<n:=Z0;exact zz270
theorem Ps (s:ByteArray) (p:Nat) (w:World) (hp:p<=1000000000) (hs:s.size<=1000000000) (r:p+4<=s.size) (o:n=n4 (s.data.toList.drop p)) (h:p+4+n<=s.size):Calls prog 297 #[.string s,.int .i64 p] w fun e w'=>e=.returned (.tuple #[.string (bs ((s.data.toList.drop (p+4)).take n)),.int .i64 (p+4+n:Nat),.bool true])/\Below w.heap.size w w':=by
 have g:=hide (fun W=>vH s p W hp hs r);rw [<-o] at g;have hi:¬ (s.size:Int) - (p:Int) - 4<n:=Z0;have j:(p:Int)+4+n<=s.size:=Z0
 have he:s.extract (p+4) (p+4+n)=bs ((s.data.toList.drop (p+4)).take n):=by
  rw [AX];congr 2;omega
 have q:=hide he;have v:((p:Int)+4).toNat=p+4:=Z0;have z:((p:Int)+4+n).toNat=p+4+n:=Z0;clear o he h;go_enter func297,ntmps297;go_wp2_with (go_at_call 298;refine (g.out _).mono ?_;rintro e w1 ⟨rfl,u⟩);go_ret3;exact ⟨by rw [<-q.out];rfl,Z4⟩
theorem lX (s:ByteArray) (p:Nat) (P:Int) (g:P=p) (w:World) (hp:p<=1000000000) (hs:s.size<=1000000000) (h:s.size<p+4):Calls prog 298 #[.string s,.int .i64 P] w fun e w'=>e=.returned (.tuple #[.int .i64 0,.bool false])/\Below w.heap.size w w':=by
 subst g;exact Io s p w hp hs h
theorem j3 (s:ByteArray) (p:Nat) (P:Int) (g:P=p) (w:World) (hp:p<=1000000000) (hs:s.size<=1000000000) (h:p+4<=s.size) (j:n=n4 (s.data.toList.drop p)):Calls prog 298 #[.string s,.int .i64 P] w fun e w'=>e=.returned (.tuple #[.int .i64 n,.bool true])/\Below w.heap.size w w':=by
 subst g j;exact vH s p w hp hs h
theorem wU (s:ByteArray) (p:Nat) (P:Int) (g:P=p) (w:World) (hp:p<=1000000000) (hs:s.size<=1000000000) (h:s.size<p+4\/s.size<p+4+n4 (s.data.toList.drop p)):Calls prog 297 #[.string s,.int .i64 P] w fun e w'=>e=.returned (.tuple #[.string ⟨#[]⟩,.int .i64 P,.bool false])/\Below w.heap.size w w':=by
 subst g;exact Ru s p w hp hs h
theorem sU (s:ByteArray) (p:Nat) (P:Int) (j:P=p) (w:World) (hp:p<=1000000000) (hs:s.size<=1000000000) (g:p+4<=s.size) (o:n=n4 (s.data.toList.drop p)) (h:p+4+n<=s.size) (q:Int) (r:q=(p+4+n:Nat)) {t:ByteArray} (u:t=bs ((s.data.toList.drop (p+4)).take n)):Calls prog 297 #[.string s,.int .i64 P] w fun e w'=>e=.returned (.tuple #[.string t,.int .i64 q,.bool true])/\Below w.heap.size w w':=by
 subst j r u;exact Ps s p w hp hs g o h
end Go.Proofs.YtnhekaepgpbijaaGreatDoor

namespace Go.Proofs.YtnhekaepgpbijaaGreatDoor
open Go.Proofs.Tryz Go.RowKit Go.ChangeShapes Go.WideShapes Go.Sort
variable {l:List Tm} {a b c k n:Nat} {s:ByteArray} {w:World} {A:Option Addr} {p_:Prop}
theorem nY (g:Addr):g.add 0=g:=by simp [Addr.add]
theorem rV (g:Addr) (m:Nat):g.add (m+1)=⟨g.block,g.off+(m+1),none⟩:=by simp [Addr.add]
theorem RD (h:l.length=2):∃t u,l=[t,u]:=by
 match l,h with
 | [t,u],_=>exact ⟨t,u,rfl⟩
def eZ (k a b:Nat) (s:ByteArray) (l:List Tm):Prop:=hd k a b s l.length/\kids k l
def Ig (k a b:Nat) (s:ByteArray) (l:List Tm) (w:World) (e:Ending) (w':World):Prop:=∃rb:Bool,e=.returned (.bool rb)/\(rb=true↔eZ k a b s l)/\Below w.heap.size w w'
theorem bX {w':World} (rb:Bool) (h:rb=true↔eZ k a b s l) (g:Below w.heap.size w w'):Ig k a b s l w (.returned (.bool rb)) w':=⟨rb,rfl,h,g⟩
theorem Mq (p:Txs w (.slice A n c) (l.map enc)) {i:Nat} (hi:i<l.length):∃g,A=some g/\n=l.length/\w.cell? (g.add i)=some (.string (bs (enc l[i])))/\g.block<w.heap.size:=by
 obtain ⟨r,u,e,q⟩:=p.open_;obtain ⟨g,h,j,o⟩:=q i (by simpa using hi);injection e with e1 e2 e3;subst e1 e2;exact ⟨g,h,Z3,by simpa using o,j⟩
theorem zzdb8 (h_:p_:=by
 clear hh hS hg h5 h10;go_enter func299,ntmps299;go_wp2;go_ret
 exact bX true ⟨fun _=>Hr.out,fun _=>rfl⟩ (by exact ae)):p_:=h_
theorem zzf7b (h_:p_:=by
 go_wp2_with fail;go_quiet ((go_at_call 196;exact Calls.quiet_of_same ((HKd.out _).mono fun _ _ h=>⟨h.1,h.2.symm⟩)));go_wp2;go_ret
 exact bX _ Hr.out (by exact ae)):p_:=h_
theorem zz8eb (h_:p_:=by
 rw [e1] at H1 Hr;clear e1;go_enter func299,ntmps299;go_wp2_with (go_at_call 209;refine (H1.out _).mono ?_;rintro e w1 ⟨rfl,rfl⟩);go_ret
 exact bX _ Hr.out (by exact ae)):p_:=h_
theorem Gj (hh:hw k a b s l.length) (hS:Txs w (.slice A n c) (l.map enc)) (hg:∀t∈l,fine t) (hs:s.size<=1000000000) (h5:k=5->l.length<=8) (h10:k=10->l.length<=32) :
  Calls prog 299 #[.agg #[.int .i64 k,.int .i64 a,.int .i64 b,.string s,.slice A n c]] w (Ig k a b s l w):=by
 have hk:1<=k/\k<=10:=by
  unfold hw at hh
  split at hh <;> first | omega | exact hh.elim
 obtain rfl | rfl | rfl | rfl | rfl | rfl | rfl | rfl | rfl | rfl:k=1\/k=2\/k=3\/k=4\/k=5\/k=6\/k=7\/k=8\/k=9\/k=10:=Z0
 all_goals simp only [hw] at hh
 ·have Hr:=hide (show eZ 1 a b s l from ⟨hh,trivial⟩)
  exact zzdb8
 ·have Hr:=hide (show (okN a && okN b)=true↔eZ 2 a b s l by
   unfold eZ;simp only [hd,YF,iD,kids];constructor
   ·rintro ⟨F,J⟩
    exact ⟨⟨Z0,Z0,hh.2.2⟩,trivial⟩
   ·rintro ⟨⟨F,J,_⟩,_⟩
    exact ⟨Z0,Z0⟩)
  have H1:=hide (fun W=>jC a W);have H2:=hide (fun W=>jC b W);clear hh hS hg h5 h10
  cases e1:okN a with
  | false =>
   exact zz8eb
  | true =>
   rw [e1] at H1 Hr;clear e1;go_enter func299,ntmps299
   go_wp2_with (first
    | (go_at_call 209;(with_reducible refine (H1.out _).mono ?_);rintro e w1 ⟨rfl,rfl⟩)
    | (go_at_call 209;(with_reducible refine (H2.out _).mono ?_);rintro e w1 ⟨rfl,rfl⟩))
   go_ret;exact bX _ Hr.out Z4
 ·have Hr:=hide (show okN a=true↔eZ 3 a b s l by
   unfold eZ;simp only [hd,iD,kids];constructor
   ·rintro F
    exact ⟨⟨Z0,hh.2⟩,trivial⟩
   ·rintro ⟨⟨F,_⟩,_⟩
    omega)
  have aa:b=0:=hh.2.1;subst aa;have H1:=hide (fun W=>jC a W);have H2:=hide (fun W=>jC 0 W);rw [show okN 0=true from rfl] at H2;clear hh hS hg h5 h10
  cases e1:okN a with
  | false =>
   exact zz8eb
  | true =>
   rw [e1] at H1 Hr;clear e1;go_enter func299,ntmps299
   go_wp2_with (first
    | (go_at_call 209;(with_reducible refine (H1.out _).mono ?_);rintro e w1 ⟨rfl,rfl⟩)
    | (go_at_call 209;refine (H2.out _).mono ?_;rintro e w1 ⟨rfl,rfl⟩))
   go_ret;exact bX _ X5 Z4
 ·obtain ⟨t,rfl⟩:∃t,l=[t]:=List.length_eq_one_iff.1 hh.2.2.1
  obtain ⟨O,rfl,hn,C,v⟩:=Mq hS (i:=0) Z3
  have Hr:=hide (show ((t.k:Int) == 3)=true↔eZ 4 a b s [t] by
   unfold eZ;simp only [hd,kids,beq_iff_eq];constructor
   ·intro F
    exact ⟨hh,by simp;omega⟩
   ·rintro ⟨_,J⟩
    have:=J t Z3
    omega)
  have HK:Hid (∀W,Calls prog 196 #[.string (bs (enc t))] W fun e w'=>e=.returned (.int .i64 (t.k:Int))/\W=w'):=fun W=>iU (o:=some t) (dZ (hg t Z3)) W
  subst hn;simp only [Yv,YL,Nat.zero_add,List.getElem_cons_zero] at C ⊢;have D:(w.alloc (.cells #[.int .i64 4,.int .i64 a,.int .i64 b,.string s,.slice (some O) 1 c] 274)).cell? (O.add 0)=some (.string (bs (enc t))):=jA ((Below.refl _ _).alloc (Y2 _) _) v C;rw [nY] at D;generalize enc t=L at C HK D;generalize t.k=tk at HK Hr;clear hh hS hg h5 h10 C;go_enter func299,ntmps299;go_wp2_with (go_at_call 196;refine (HK.out _).mono ?_;rintro e w1 ⟨rfl,rfl⟩);go_ret;exact bX _ Hr.out Z4
 ·have U:=hide (fun W=>rT s 2100 W Z0)
  have V:=hide hg;have H8:=hide (h5 rfl);have hl8:=h5 rfl;have X:=hide hh;have HS:=hide hS;clear hh hS hg h5 h10;obtain ⟨A',c',e,C⟩:=HS.out.open_;injection e with e1 e2 e3;subst e1 e2;have HC:=hide C;clear C;simp only [Yd];go_enter func299,ntmps299;go_wp2
  go_loopw [3] (fun i wr=>∃(j:Nat),j<=l.length/\i=.int .i64 j/\Hid (∀m (h:m<l.length),m<j->l[m].k=2)/\Hid (∀m (h:m+1<l.length),m+1<j->tlt l[m+1] l[m]=false)/\Below w.heap.size w wr/\Blk wr w.heap.size 274 #[.int .i64 5,.int .i64 a,.int .i64 b,.string s,.slice A l.length c']) (fun i _=>l.length - (intOf i).toNat)
  case atStart=>exact ⟨0,Yb _,rfl,hide (fun m h B=>absurd B Z0),hide (fun m h B=>absurd B Z0),Z4,Blk.new _ _ _⟩
  case round =>
   obtain ⟨j,hj,rfl,HK2,P,G,r⟩:=hrel;have q3:wr.cell? ⟨w.heap.size,3,none⟩=some (.string s):=r.cell 3;have q4:wr.cell? ⟨w.heap.size,4,none⟩=some (.slice A l.length c'):=r.cell 4
   by_cases I:j<l.length
   ·have ab:(j:Int)<l.length:=by omega
    obtain ⟨O,rfl,v,Q⟩:=HC.out j (by simpa using I);have q:=jA G v Q;simp only [List.getElem_map] at q;clear Q;have HKd:Hid (∀W,Calls prog 196 #[.string (bs (enc l[j]))] W fun e w'=>e=.returned (.int .i64 (l[j].k:Int))/\W=w'):=fun W=>iU (o:=some l[j]) (dZ (V.out _ (Yf _))) W
    by_cases p:l[j].k=2
    ·rw [p] at HKd
     cases j with
     | zero =>
      have hd:decide ((0:Int) > 0)=false:=Z2;rw [nY] at q
      have K:=hide (show ∀m (h:m<l.length),m<0+1->l[m].k=2 from fun m h B=>by
       obtain rfl:m=0:=Z0
       exact p)
      clear p;generalize enc l[0]=L at q HKd;go_wp2_with fail;go_quiet ((go_at_call 196;exact Calls.quiet_of_same ((HKd.out _).mono fun _ _ h=>⟨h.1,h.2.symm⟩)));go_wp2;exact ⟨⟨1,Z0,rfl,K,hide (fun m h B=>absurd B Z0),below_drewN G _,r.drewN _⟩,Zh⟩
     | succ m =>
      have hd:decide ((m:Int)+1 > 0)=true:=Y8 Z0;rw [rV] at q;have hm:m<l.length:=Z0;obtain ⟨ac,Y,_,R⟩:=HC.out m (by simpa using hm);injection Y with Y;subst Y;have N:=jA G v R;simp only [List.getElem_map] at N;clear R
      have K:=hide (show ∀i (h:i<l.length),i<m+1+1->l[i].k=2 from fun i h B=>by
       rcases Nat.lt_or_ge i (m+1) with F | F
       ·exact HK2.out i h F
       ·obtain rfl:i=m+1:=by omega
        exact p)
      have g:=Fy (V.out _ (Yf I)).1 (V.out _ (Yf hm)).1 p (HK2.out m hm Z0);have an:IntKind.i64.wrap ((m:Int)+1)=(m:Int)+1:=Zb;have ao:IntKind.i64.wrap (m:Int)=(m:Int):=Zb;have p0:(0:Int)<=(m:Int)+1:=Z0;have p1:(0:Int)<=(m:Int):=Z0;have e0:((m:Int)+1).toNat=m+1:=Z0;have jz:(m:Int)+1<(l.length:Int):=Z0;have am:(m:Int)<(l.length:Int):=Z0;clear p
      cases z:tlt l[m+1] l[m] with
      | true =>
       have Hr:=hide (show false=true↔eZ 5 a b s l from ⟨(fun h=>ZM),fun h=>by
        have J:=Pp h.2.2 I;rw [z] at J
        cases J⟩)
       rw [z] at g;clear z;generalize enc l[m+1]=L at q HKd g;generalize enc l[m]=Z at N g;rw [<-ay L,<- ay Z] at g;exact zzf7b
      | false =>
       have T:=hide (show ∀i (h:i+1<l.length),i+1<m+1+1->tlt l[i+1] l[i]=false from fun i h B=>by
        rcases Nat.lt_or_ge i m with F | F
        ·exact P.out i h Z0
        ·obtain rfl:i=m:=by omega
         exact z)
       rw [z] at g;clear z;generalize enc l[m+1]=L at q HKd g;generalize enc l[m]=Z at N g;rw [<-ay L,<- ay Z] at g;go_wp2_with fail;go_quiet ((go_at_call 196;exact Calls.quiet_of_same ((HKd.out _).mono fun _ _ h=>⟨h.1,h.2.symm⟩)));go_wp2;exact ⟨⟨m+2,Z0,Zr,K,T,below_drewN G _,r.drewN _⟩,Zh⟩
    ·have ht:((l[j].k:Int) != 2)=true:=by rw [YG];omega
     have Hr:=hide (show false=true↔eZ 5 a b s l from ⟨(fun h=>ZM),fun h=>absurd (h.2.1 _ (Yf I)) p⟩);clear p;generalize enc l[j]=L at q HKd;generalize l[j].k=kk at HKd ht;exact zzf7b
   ·have ab:¬ (j:Int)<l.length:=by omega
    have af:l.length<=j:=Z0
    have Hr:=hide (show decide (1<=s.size/\(s.size:Int)<=2100)=true↔eZ 5 a b s l by
     unfold eZ;have hh:=X.out;simp only [hd,kids,Yw];constructor
     ·intro B
      exact ⟨⟨hh.1,hh.2.1,H8.out,B.1,Z0⟩,fun x hx=>by
       obtain ⟨i,hi,rfl⟩:=YM hx
       exact HK2.out i hi Z0,Ep fun i hi=>Ij.2 (P.out i hi Z0)⟩
     ·rintro ⟨⟨_,_,_,h3,h4⟩,_⟩
      exact ⟨h3,Z0⟩)
    go_wp2_with (go_at_call 295;refine (U.out _).mono ?_;rintro e w1 ⟨rfl,rfl⟩);go_ret;exact bX _ (by simpa [Bool.decide_and] using Hr.out) Z4
 ·obtain ⟨t,u,rfl⟩:∃t u,l=[t,u]:=RD hh.2.2.1
  obtain ⟨O,rfl,hn,C,v⟩:=Mq hS (i:=0) Z3
  have Hr:=hide (show (decide (1<=s.size/\(s.size:Int)<=64) && ((t.k:Int) == 3))=true↔eZ 6 a b s [t,u] by
   unfold eZ;simp only [hd,kids,beq_iff_eq,YF,Yw];constructor
   ·rintro ⟨B,F⟩
    exact ⟨⟨hh.1,hh.2.1,hh.2.2.1,B.1,Z0⟩,by simp;omega⟩
   ·rintro ⟨⟨_,_,_,h3,h4⟩,J⟩
    have:=J t Z3
    exact ⟨⟨h3,Z0⟩,Z0⟩)
  have HK:Hid (∀W,Calls prog 196 #[.string (bs (enc t))] W fun e w'=>e=.returned (.int .i64 (t.k:Int))/\W=w'):=fun W=>iU (o:=some t) (dZ (hg t Z3)) W
  have S:=hide (fun W=>rT s 64 W Z0);subst hn;simp only [Yv,YL,Nat.zero_add,List.getElem_cons_zero] at C ⊢;have D:(w.alloc (.cells #[.int .i64 6,.int .i64 a,.int .i64 b,.string s,.slice (some O) 2 c] 274)).cell? (O.add 0)=some (.string (bs (enc t))):=jA ((Below.refl _ _).alloc (Y2 _) _) v C;rw [nY] at D;generalize enc t=L at C HK D;generalize t.k=tk at HK Hr;clear hh hS hg h5 h10 C
  cases e1:decide (1<=s.size/\(s.size:Int)<=64) with
  | false =>
   rw [e1] at S Hr;clear e1;go_enter func299,ntmps299;go_wp2_with (go_at_call 295;refine (S.out _).mono ?_;rintro e w1 ⟨rfl,rfl⟩);go_ret;exact bX _ X5 Z4
  | true =>
   rw [e1] at S Hr;clear e1;go_enter func299,ntmps299
   go_wp2_with (first
    | (go_at_call 295;refine (S.out _).mono ?_;rintro e w1 ⟨rfl,rfl⟩)
    | (go_at_call 196;refine (HK.out _).mono ?_;rintro e w1 ⟨rfl,rfl⟩))
   go_ret;exact bX _ X5 Z4
 ·have Hr:=hide (show eZ 7 a b s l from ⟨hh,trivial⟩)
  exact zzdb8
 ·have Hr:=hide (show eZ 8 a b s l from ⟨hh,trivial⟩)
  exact zzdb8
 ·have Hr:=hide (show eZ 9 a b s l from ⟨hh,trivial⟩)
  exact zzdb8
 ·have Hr:=hide (show eZ 10 a b s l from ⟨⟨hh.1,hh.2.1,h10 rfl,hh.2.2.2⟩,trivial⟩)
  exact zzdb8
end Go.Proofs.YtnhekaepgpbijaaGreatDoor
namespace Go.Proofs.YtnhekaepgpbijaaGreatDoor
open Go.Proofs.Tryz
def uF:ByteArray:=⟨#[50]⟩
def uA:ByteArray:=⟨#[112,117,98,108,105,99,107,101,121]⟩
def uC:ByteArray:=⟨#[1]⟩
def Qn (s:Option Tm) (user service alg:ByteArray) (key:Option Tm):List (Option Tm):=[s,aM uF,aM user,aM service,aM uA,aM uC,aM alg,key]
def O3 (s:Option Tm) (user service alg:ByteArray) (key:Option Tm):Option Tm:=gB (Qn s user service alg key)
def lU (s:Option Tm) (user service alg:ByteArray) (who:Int):Option Tm:=jR alg (lh who) (O3 s user service alg (pI (lh who)))
end Go.Proofs.YtnhekaepgpbijaaGreatDoor
namespace Go.Proofs.YtnhekaepgpbijaaGreatDoor
open Go.Proofs.Tryz Go.RowKit Go.Extern.Stop Go.Stop Go.Extern
variable {w':World} {ps:List (List UInt8)} {k:Int}
def aK (b:Nat):Value:=.iface 168 (.pointer (some ⟨b,0,none⟩))
def aZ (w:World):Value->List (List UInt8)->Int->Prop
 | v,[],k=>v=.iface 43 (.int .i64 k)
 | v,s :: r,k=>∃b v',v=aK b/\Blk w b 170 #[.string (bs s),v']/\aZ w v' r k
theorem aZ.below {w:World} (j:Below w.heap.size w w'):∀{ps:List (List UInt8)} {v:Value} {k:Int},aZ w v ps k->aZ w' v ps k
 | [],_,_,h=>h
 | _ :: _,_,_,h=>by
  obtain ⟨b,v',e,g,o⟩:=h;exact ⟨b,v',e,g.below j g.lt,aZ.below j o⟩
theorem aZ.own {w:World} {g:Nat} {t:TypeId} {cs:Array Value} (q:Blk w g t cs) (j:t≠170) (p:w.grownBy w' (some g)):∀{ps:List (List UInt8)} {v:Value} {k:Int},aZ w v ps k->aZ w' v ps k
 | [],_,_,h=>h
 | _ :: _,_,_,h=>by
  obtain ⟨b,v',e,o,u⟩:=h;exact ⟨b,v',e,o.grown p (fun r=>Blk.ne_ q o j (Y9 r).symm),aZ.own q j p u⟩
noncomputable def GH (w:World) (v:Value):Nat:=by
 classical exact if h:∃ps k,aZ w v ps k then h.choose.length else 0
theorem yQ {w:World}:∀{ps ps':List (List UInt8)} {v:Value} {k k':Int},aZ w v ps k->aZ w v ps' k'->ps.length=ps'.length
 | [],[],_,_,_,_,_=>rfl
 | [],_ :: _,_,_,_,h,h2=>by
  obtain ⟨b,v',e,_⟩:=h2;rw [e] at h;cases h
 | _ :: _,[],_,_,_,h,h2=>by
  obtain ⟨b,v',e,_⟩:=h;rw [e] at h2;cases h2
 | _ :: r,_ :: r2,v,_,_,h,h2=>by
  obtain ⟨b,v',rfl,u,p⟩:=h;obtain ⟨b2,v2,o,g,q⟩:=h2;cases o
  have j:=(u.cell 1).symm.trans (g.cell 1);simp only [Jx,Q1,Q2,Option.some.injEq] at j;subst j;rw [Yv,Yv,yQ p q]
theorem Ii {w:World} {v:Value} (h:aZ w v ps k):GH w v=ps.length:=by
 have g:∃ps k,aZ w v ps k:=⟨ps,k,h⟩
 unfold GH;rw [dif_pos g];exact yQ g.choose_spec.choose_spec h
section
variable {w : World}
theorem Q9 (b:Nat) (h:aZ w (aK b) ps k) (t:Addr) (old:Value) (hg:Hand w) (ht0:w.cell? t=some old) (hf0:w.frozen? t=false) :
  Calls prog 187 #[aK b,.iface 265 (.pointer (some t))] w fun ev w'=>ev=.returned (.bool true)/\∃W,Below w.heap.size w W/\w'=W.setCell t (.int .i64 k):=by
 have F:=@run_callFunc_extern prog 249 _ (fun args=>ReflectliteValue.unpack (args.getD 0 (.tuple #[]))) func249 Z1 Z1 Z1 Z1;have G:=@run_callFunc_extern prog 250 _ (ReflectliteValue.methodAny (ReflectliteValue.valueError "reflectlite.Value.Type" 0) (fun t _ _ _=>ReflectliteType.toType t)) func250 Z1 Z1 Z1 Z1;have I:=@run_callFunc_extern prog 251 _ (ReflectliteValue.method (ReflectliteValue.valueError "reflectlite.Value.IsNil" 0) ReflectliteValue.isNil) func251 Z1 Z1 Z1 Z1;have N:=@run_callFunc_extern prog 373 _ (ReflectliteType.abiMethod fun t=>do pure (.int .u8 (<- Rtype.kind t))) func373 Z1 Z1 Z1 Z1;have P:=@run_callFunc_extern prog 387 _ (ReflectliteType.method ReflectliteType.elem) func387 Z1 Z1 Z1 Z1;have Q:=@run_callFunc_extern prog 388 _ (ReflectliteType.relation "Implements" ReflectliteType.implements_) func388 Z1 Z1 Z1 Z1;have J:=@run_callFunc_extern prog 288 _ ReflectliteType.typeOf func288 Z1 Z1 Z1 Z1;have O:=@run_callFunc_extern prog 385 _ (ReflectliteType.relation "AssignableTo" ReflectliteType.assignableTo) func385 Z1 Z1 Z1 Z1;have K:=@run_callFunc_extern prog 289 _ (ReflectliteValue.method (ReflectliteValue.valueError "reflectlite.Value.Elem" 0) ReflectliteValue.elem) func289 Z1 Z1 Z1 Z1;have L:=@run_callFunc_extern prog 290 _ ReflectliteValue.set func290 Z1 Z1 Z1 Z1;have tO:=yH;have tE:=yz;have T:=RG;have S:=RA;have vE:=FX;have Z:=Du;have f7:=Ob;have Y:=NJ;have kE:=RO;have U:=Nj;have iE:=QF;have n1:=QP;have n2:=Rn;have n3:=Ir;have mU:=Ve;have mA:=Ff;have mK:=Bo
 have mE:=Ag;have mI:=Aa;have hlt:=hg.lt
 have htl:t.block<w.heap.size:=by
  exact zz5cf
 have n8:=OL ⟨w.heap.size,0,none⟩ t ((w.alloc (.cells #[.pointer (some t)] 265)).alloc (.cells #[.pointer (some ⟨9,265,none⟩),.pointer (some ⟨w.heap.size,0,none⟩),.int .u64 150] 300)) Z3
 have X:((w.alloc (.cells #[.pointer (some t)] 265)).alloc (.cells #[.pointer (some ⟨9,265,none⟩),.pointer (some ⟨w.heap.size,0,none⟩),.int .u64 150] 300)).cell? ⟨1,0,none⟩=some (.iface 331 (.agg #[.pointer (some ⟨9,41,none⟩)])):=by
  exact zz1cf
 have V:=MV ⟨w.heap.size,0,none⟩ t (((w.alloc (.cells #[.pointer (some t)] 265)).alloc (.cells #[.pointer (some ⟨9,265,none⟩),.pointer (some ⟨w.heap.size,0,none⟩),.int .u64 150] 300)).alloc (.cells #[.pointer (some ⟨9,265,none⟩),.pointer (some ⟨w.heap.size,0,none⟩),.int .u64 150] 300)) ZN
 have st:=TS t ⟨w.heap.size+1+1+1,0,none⟩ k old ((((w.alloc (.cells #[.pointer (some t)] 265)).alloc (.cells #[.pointer (some ⟨9,265,none⟩),.pointer (some ⟨w.heap.size,0,none⟩),.int .u64 150] 300)).alloc (.cells #[.pointer (some ⟨9,265,none⟩),.pointer (some ⟨w.heap.size,0,none⟩),.int .u64 150] 300)).alloc (.cells #[.int .i64 k] 43))
  (by rw [World.cell?_alloc_at _ _ _ _ Z3];rfl)
  Zv
  Zo
 have A:Below w.heap.size w ((((w.alloc (.cells #[.pointer (some t)] 265)).alloc (.cells #[.pointer (some ⟨9,265,none⟩),.pointer (some ⟨w.heap.size,0,none⟩),.int .u64 150] 300)).alloc (.cells #[.pointer (some ⟨9,265,none⟩),.pointer (some ⟨w.heap.size,0,none⟩),.int .u64 150] 300)).alloc (.cells #[.int .i64 k] 43)):=Z4;have o:=hide (h.below (show Below w.heap.size w (((w.alloc (.cells #[.pointer (some t)] 265)).alloc (.cells #[.pointer (some ⟨9,265,none⟩),.pointer (some ⟨w.heap.size,0,none⟩),.int .u64 150] 300)).alloc (.cells #[.pointer (some ⟨9,265,none⟩),.pointer (some ⟨w.heap.size,0,none⟩),.int .u64 150] 300)) from Z4));clear h hg ht0 hf0 hlt htl
 obtain ⟨w3,g⟩:∃w3,w3=(((w.alloc (.cells #[.pointer (some t)] 265)).alloc (.cells #[.pointer (some ⟨9,265,none⟩),.pointer (some ⟨w.heap.size,0,none⟩),.int .u64 150] 300)).alloc (.cells #[.pointer (some ⟨9,265,none⟩),.pointer (some ⟨w.heap.size,0,none⟩),.int .u64 150] 300)):=⟨_,rfl⟩
 rw [<-g] at o V;unfold aK;go_enter func187,ntmps187;go_wp2;rw [<-g];have z:=hide g;clear g
 go_loopw [0] (fun B wr=>wr=w3/\∃j v,B=v/\Hid (aZ w3 v j k)) (fun B _=>GH w3 B)
 case atStart=>exact ⟨rfl,ps,_,rfl,o⟩
 case round =>
  obtain ⟨rfl,j,v,R,u⟩:=hrel;have hd:=Ii u.out
  cases j with
  | nil =>
   have e:v=.iface 43 (.int .i64 k):=u.out;subst e;subst R;have g:=z.out;subst g;go_wp2;go_ret;exact ⟨rfl,_,A,rfl⟩
  | cons s1 r =>
   obtain ⟨b1,v1,e,q1,p⟩:=u.out;have q:=Ii p;have D:=q1.cell 1;simp only [Jx,Q1,Q2] at D;have C:=hide p;subst e;subst R;unfold aK
   cases r with
   | nil =>
    have e:v1=.iface 43 (.int .i64 k):=p;subst e;clear p q1;go_wp2;exact ⟨⟨trivial,[],_,rfl,C⟩,(show GH wr (.iface 43 (.int .i64 k))<GH wr (aK b1) from by rw [q,hd];simp)⟩
   | cons s2 r2 =>
    obtain ⟨b2,v2,e,_,_⟩:=p;subst e;clear q1;unfold aK at D;go_wp2;exact ⟨⟨trivial,_,_,rfl,C⟩,(show GH wr (aK b2)<GH wr (aK b1) from by rw [q,hd];simp)⟩
end
end Go.Proofs.YtnhekaepgpbijaaGreatDoor
namespace Go.Proofs.YtnhekaepgpbijaaGreatDoor
open Go.Proofs.Tryz Go.RowKit
variable {ps:List (List UInt8)} {k:Int} {b n size:Nat} {e t:TypeId} {v:Value} {j:List Value}
section
variable {w : World}
theorem bT (s:ByteArray) (k:Int) (g:(k == 0)=false) (w:World):Calls prog 43 #[.string s,.int .i64 k] w (fun e w'=>∃b,e=.returned (aK b)/\aZ w' (aK b) [s.data.toList] k/\Below w.heap.size w w'):=by
 go_enter func43,ntmps43;go_wp2;go_ret;exact ⟨w.heap.size,rfl,⟨_,_,rfl,Blk.new _ _ _,rfl⟩,Z4⟩
theorem IQ (s:ByteArray) (w:World):Calls prog 43 #[.string s,.int .i64 0] w (fun e w'=>e=.returned .nilIface/\w'=w):=by
 go_enter func43,ntmps43;go_wp2;go_ret;exact ⟨rfl,rfl⟩
theorem mO (s:ByteArray) (b:Nat) (h:aZ w (aK b) ps k):Calls prog 47 #[.string s,aK b] w (fun e w'=>∃g,e=.returned (aK g)/\aZ w' (aK g) (s.data.toList :: ps) k/\Below w.heap.size w w'):=by
 have H:=hide (fun w' (hb:Below w.heap.size w w')=>h.below hb);unfold aK;clear h;go_enter func47,ntmps47;go_wp2;go_ret;exact ⟨w.heap.size,rfl,⟨_,_,rfl,Blk.new _ _ _,H.out _ Z4⟩,Z4⟩
theorem Pt (b:Nat) (h:aZ w (aK b) ps k) (r:Hand w):Calls prog 107 #[aK b] w (fun e w'=>e=.returned (.int .i64 k)/\Below w.heap.size w w'):=by
 have g:=(Below.refl w.heap.size w).alloc (Y2 _) (.cells #[.int .i64 0] 43);have o:=Blk.new w 43 #[.int .i64 0];have q:=hide (Q9 b (h.below g) ⟨w.heap.size,0,none⟩ (.int .i64 0) (r.below g) (o.cell 0) (o.frozen 0));clear r h;unfold aK at q ⊢;go_enter func107,ntmps107;go_wp2_with fail;refine q.out.mono ?_;rintro e w1 ⟨rfl,W,j,rfl⟩
 have u:(W.setCell ⟨w.heap.size,0,none⟩ (.int .i64 k)).cell? ⟨w.heap.size,0,none⟩=some (.int .i64 k):=by
  have:=(o.below j o.lt).set_ 0 (.int .i64 k);simpa using this.cell 0
 have p:Below w.heap.size w (W.setCell ⟨w.heap.size,0,none⟩ (.int .i64 k)):=(g.trans (j.mono g.size)).setCell (Y2 _) _;clear o g j;go_wp2_with fail;go_ret;exact ⟨rfl,p⟩
theorem mJ {g:Nat} {w w':World} (h:w.ownsRow g t size v n j) (o:Below w.heap.size w w'):w'.ownsRow g t size v n j:=by
 refine h.kept (ag o none) ?_
 cases p:v.ownBlock with
 | none=>exact .inl rfl
 | some i=>exact .inr (fun e=>Xv)
theorem ed {w:World} {base:Nat} (h:w.ownsRow base e size v n j):∃A c,v=.slice A n c:=by
 rcases h.2 with ⟨rfl,rfl⟩ | ⟨o,cap,g,rfl,_⟩
 ·exact ⟨none,0,rfl⟩
 ·exact ⟨_,_,rfl⟩
theorem dJ {W:World} {us:List Value} {m:Nat} (h:Blk W b t us.toArray) (g:us.length=m*size):Reads W W.heap.size size (some ⟨b,0,none⟩) m us :=
 ⟨g,fun _=>⟨_,rfl,h.lt,fun j u hu=>XC⟩⟩
theorem eP {o:Option TypeInfo} {z:Option Value} (h:o.map (fun i=>(i.zero,i.size,i.bytes))=some (z,n,b)):∃i,o=some i/\i.zero=z/\i.size=n/\i.bytes=b:=by
 cases o with
 | none=>cases h
 | some i =>
  simp only [Option.map_some,Option.some.injEq,Prod.mk.injEq] at h;exact ⟨i,rfl,h.1,h.2.1,h.2.2⟩
theorem Mv {w:World} {B i:Nat} {ls:List (List UInt8)} (h:w.ownsRow B e 1 v i ((ls.map bs).map Value.string)) (hi:(ls.map bs).length=i):Txs w v ls:=by
 obtain ⟨A,c,rfl⟩:=ed h;refine ⟨A,c,by rw [hi],?_⟩;rw [hi];exact Sl.of_reads (Reads.of_own h)
theorem uK:(prog.info? 9).map (fun i=>(i.zero,i.size,i.bytes))=some (some (.string ⟨#[]⟩),1,16):=Z1
def KI:Value->Nat
 | .slice _ n _=>n
 | _=>0
structure TL (w:World) (ps:List (List UInt8)) (k:Int) (tb:Nat) (i:Nat) (A:Option Addr) (c:Nat) (vi:Value) (wr:World):Prop where
 err:aZ w vi (ps.drop i) k
 own:wr.ownsRow w.heap.size 9 1 (.slice A i c) i (((ps.take i).map bs).map Value.string)
 blk:∃p,Blk wr tb 168 #[.pointer p]
 bel:Below w.heap.size w wr
theorem PL (b:Nat) (aq:ps.length<=1000) (h:aZ w (aK b) ps k) (hg:Hand w):Calls prog 106 #[aK b] w (fun e w'=>∃A c,e=.returned (.slice A ps.length c)/\Txs w' (.slice A ps.length c) ps/\Below w.heap.size w w'):=by
  have K:=(Below.refl w.heap.size w).alloc (Y2 _) (.cells #[.pointer none] 168);have Y:=Blk.new w 168 #[.pointer none]
  obtain ⟨w0,L⟩:∃w0,w0=w.alloc (.cells #[.pointer none] 168):=⟨_,rfl⟩
  rw [<-L] at K Y
  obtain ⟨o,G⟩:∃o,o=w.heap.size:=⟨_,rfl⟩
  rw [<-G] at Y;obtain ⟨iI,af,ab,ac,ad⟩:=eP uK;have O:=hide (show TL w ps k o 0 none 0 (aK b) w0 from ⟨h,World.ownsRow_nil _ _ _ _,⟨none,Y⟩,K⟩);have Hg:=hide hg;unfold aK at O ⊢;clear h hg Y K;go_enter func106,ntmps106;go_upto_region 3 with fail;rw [<-L,<- G];have aa:=hide G;clear L G
  go_loopw [0,3] (fun ve vo wr=>∃(i:Nat) (A:Option Addr) (c:Nat),vo=.slice A i c/\i<=ps.length/\Hid (TL w ps k o i A c ve wr)) (fun _ vo _=>ps.length - KI vo)
  case atStart=>exact ⟨0,none,0,rfl,Yb _,O⟩
  case round =>
    obtain ⟨i,A,c,rfl,hi,N⟩:=hrel;have r:=N.out.err;obtain ⟨p0,z⟩:=N.out.blk;have B:=N.out.bel;have v:=N.out.own
    by_cases T:i<ps.length
    · rw [List.drop_eq_getElem_cons T] at r
      obtain ⟨b1,v',rfl,q1,D⟩:=r
      have an:=hide (show ((ps.take (i+1)).map bs).map Value.string=((ps.take i).map bs).map Value.string++[.string (bs ps[i])] from by
        rw [Yh T,List.map_append,List.map_append]
        rfl)
      have J:=hide D;have Z:=hide (Sr (w:=wr) ⟨b1,0,none⟩ ⟨o,0,none⟩ (.pointer p0) (Hg.out.below B) (z.cell 0) (z.frozen 0));have HO:=hide v;have X:=hide q1;have HB:=hide z;have C:=hide B;have ap:i<=1000:=Z0;unfold aK at Z ⊢;clear D v q1 z B N;go_wp2_with fail;refine Z.out.mono ?_;rintro e w1 ⟨rfl,P,q,rfl⟩;have g:Below w.heap.size w (P.setCell ⟨o,0,none⟩ (.pointer (some ⟨b1,0,none⟩))):=(C.out.trans (q.mono C.out.size)).setCell (by rw [aa.out];exact Y2 _) _
      have p:Blk (P.setCell ⟨o,0,none⟩ (.pointer (some ⟨b1,0,none⟩))) o 168 #[.pointer (some ⟨b1,0,none⟩)]:=by
        have:=(HB.out.below q HB.out.lt).set_ 0 (.pointer (some ⟨b1,0,none⟩));simpa using this
      have u:(P.setCell ⟨o,0,none⟩ (.pointer (some ⟨b1,0,none⟩))).ownsRow w.heap.size 9 1 (.slice A i c) i (((ps.take i).map bs).map Value.string):=by
        have h1:wr.grownBy (P.setCell ⟨o,0,none⟩ (.pointer (some ⟨b1,0,none⟩))) (some o):=ah (ag q (some o)) (.inl rfl) _;refine HO.out.kept h1 ?_
        cases eo:(Value.slice A i c).ownBlock with
        | none=>exact .inl rfl
        | some j=>exact .inr (fun e=>by
            have:=Y9 e;subst this
            exact bf HO.out HB.out Z2 eo)
      generalize P.setCell ⟨o,0,none⟩ (.pointer (some ⟨b1,0,none⟩))=X1 at g p u ⊢;have c1:X1.cell? ⟨o,0,none⟩=some (.pointer (some ⟨b1,0,none⟩)):=p.cell 0;have c2:X1.cell? ⟨b1,0,none⟩=some (.string (bs ps[i])):=(X.out.below g X.out.lt).cell 0
      have V:w.heap.size<=(X1.alloc (.cells #[.string (bs ps[i])] 9)).heap.size:=by
        have:=g.size;simp only [World.size_alloc];omega
      clear q Z HO
      go_wp2_with (first
        | (at_builtin;refine aB _ rfl (.tmp 16) (.tmp 21) _ rfl w.heap.size 9 iI (.string ⟨#[]⟩) 1 16 underlying22 af ab ac ad rfl Z2 (.slice A i c) i _ rfl (u.alloc _) _ (some ⟨_,0,none⟩) 1 1 [.string (bs ps[i])] rfl (dJ (Blk.new _ _ _) rfl) Zd Ze Z0 (by simp only [World.size_alloc];have:=g.size;omega) ?_;intro v6 w6 F I ao;obtain ⟨A6,c6,rfl⟩:=ed F;
           have S:=(g.alloc g.size (.cells #[.string (bs ps[i])] 9)).grown I V (fun k e=>(u.lt k e).1);
           have Q:=Blk.grown (p.alloc (.cells #[.string (bs ps[i])] 9)) I (fun e=>bf u p Z2 e.symm);
           have d1:=Q.cell 0;have d2:=(X.out.below S X.out.lt).cell 1;simp only [Jx,Q1,Q2] at d1 d2)
        | fail)
      refine ⟨⟨i+1,A6,c6,by first | rfl | (simp;done),Z0,hide ⟨J.out,?_,⟨_,Q⟩,S⟩⟩,by simp [KI];omega⟩;rw [an.out];exact F
    · have am:i=ps.length:=by omega
      subst am;rw [List.drop_length] at r;cases r
      have H3:=hide (Ml (w:=wr) k ⟨o,0,none⟩ (.pointer p0) (Hg.out.below B) (z.cell 0));have HO:=hide v;have C:=hide B;clear z B v N;go_wp2_with fail;refine H3.out.mono ?_;rintro e w8 ⟨rfl,R⟩;have U:=mJ HO.out R;rw [List.take_length] at U;go_wp2_with fail;go_ret;exact ⟨A,c,rfl,Mv U (by rw [Yd]),C.out.trans (R.mono C.out.size)⟩
end
end Go.Proofs.YtnhekaepgpbijaaGreatDoor
