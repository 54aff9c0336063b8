/- Several of my texts in one: PureA, SignP. -/
import GoSem.Op.String
import Derived.Lib.ItoaNum
set_option linter.unusedVariables false
set_option linter.unusedSimpArgs false
set_option maxHeartbeats 40000000
set_option maxRecDepth 100000
namespace Go.Proofs.YtnhekaepgpbijaaGreatDoor
inductive Tm where
 | mk (k a b:Nat) (s:ByteArray) (l:List Tm)
def Tm.k:Tm→Nat | .mk k _ _ _ _=>k
def Tm.a:Tm→Nat | .mk _ a _ _ _=>a
def Tm.b:Tm→Nat | .mk _ _ b _ _=>b
def Tm.s:Tm→ByteArray | .mk _ _ _ s _=>s
def Tm.l:Tm→List Tm | .mk _ _ _ _ l=>l

def q4 (n:Nat):List UInt8:=[UInt8.ofNat (n / 16777216),UInt8.ofNat (n / 65536),UInt8.ofNat (n / 256),UInt8.ofNat n]
theorem bU (n:Nat):(q4 n).length=4:=rfl
def n4:List UInt8→Nat
 | x :: y :: z :: u :: _=>x.toNat*16777216+y.toNat*65536+z.toNat*256+u.toNat
 | _=>0
theorem xu {n:Nat} (h:n<4294967296) (r:List UInt8):n4 (q4 n++r)=n:=by
 simp only [q4,n4,List.cons_append,UInt8.toNat_ofNat'];omega
theorem QY (x y z u:UInt8) (r:List UInt8):q4 (n4 (x :: y :: z :: u :: r))=[x,y,z,u]:=by
 have h1:=x.toNat_lt;have h2:=y.toNat_lt;have h3:=z.toNat_lt;have h4:=u.toNat_lt;simp only [q4,n4,List.cons.injEq,and_true];refine ⟨?_,?_,?_,?_⟩ <;> (apply UInt8.toNat_inj.1;simp only [UInt8.toNat_ofNat'];omega)
theorem jT (l:List UInt8):n4 l<4294967296:=by
 unfold n4
 split
 ·rename_i x y z u _
  have h1:=x.toNat_lt;have h2:=y.toNat_lt;have h3:=z.toNat_lt;have h4:=u.toNat_lt;omega
 ·omega
theorem ik {n m:Nat} {r r':List UInt8} (hn:n<4294967296) (hm:m<4294967296) (h:q4 n++r=q4 m++r'):n=m∧r=r':=by
 have h1:=xu hn r;rw [h,xu hm r'] at h1;subst h1;exact ⟨rfl,List.append_cancel_left h⟩

def mid (k a b:Nat) (s:List UInt8) (n:Nat):List UInt8 :=
 match k with
 | 1=>q4 s.length++s
 | 2=>q4 a++q4 b
 | 3=>q4 a
 | 5=>q4 s.length++(s++q4 n)
 | 6=>q4 s.length++s
 | 8=>[UInt8.ofNat b]
 | 9=>q4 b
 | 10=>q4 n
 | _=>[]
def head (k a b:Nat) (s:List UInt8) (n:Nat):List UInt8:=UInt8.ofNat (240+k) :: mid k a b s n

mutual
def enc:Tm→List UInt8
 | .mk k a b s l=>head k a b s.data.toList l.length++encs l
def encs:List Tm→List UInt8
 | []=>[]
 | t :: l=>enc t++encs l
end
theorem yO (t:Tm):enc t≠[]:=by
 cases t
 simp [enc,head]
theorem iG (l m:List Tm):encs (l++m)=encs l++encs m:=by
 induction l with
 | nil=>simp [encs]
 | cons t l ih=>simp [encs,ih]

def tle (x y:Tm):Prop:=x.a<y.a∨x.a=y.a∧x.b≤y.b
def hd (k a b:Nat) (s:ByteArray) (n:Nat):Prop :=
 match k with
 | 1=>a=0∧b=0∧n=0∧s.size<4294967296
 | 2=>a<2147483648∧b<2147483648∧n=0∧s=⟨#[]⟩
 | 3=>a<2147483648∧b=0∧n=0∧s=⟨#[]⟩
 | 4=>a=0∧b=0∧n=1∧s=⟨#[]⟩
 | 5=>a=0∧b=0∧n≤8∧1≤s.size∧s.size≤2100
 | 6=>a=0∧b=0∧n=2∧1≤s.size∧s.size≤64
 | 7=>a=0∧b=0∧n=1∧s=⟨#[]⟩
 | 8=>a=0∧b<256∧n=3∧s=⟨#[]⟩
 | 9=>a=0∧b<4294967296∧n=2∧s=⟨#[]⟩
 | 10=>a=0∧b=0∧n≤32∧s=⟨#[]⟩
 | _=>False
def kids (k:Nat) (l:List Tm):Prop :=
 match k with
 | 4=>∀x∈l.head?,x.k=3
 | 5=>(∀x∈l,x.k=2)∧l.Pairwise tle
 | 6=>∀x∈l.head?,x.k=3
 | _=>True
mutual
def good:Tm→Prop
 | .mk k a b s l=>hd k a b s l.length∧kids k l∧dX l
def dX:List Tm→Prop
 | []=>True
 | t :: l=>good t∧dX l
end
theorem jf (l:List Tm):dX l↔∀t∈l,good t:=by
 induction l with
 | nil=>simp [dX]
 | cons t l ih=>simp [dX,ih]
theorem zg {k a b n:Nat} {s:ByteArray} (h:hd k a b s n):1≤k∧k≤10:=by
 unfold hd at h
 split at h <;> first | omega | exact h.elim
theorem Qr {k k':Nat} (h1:k≤10) (h2:k'≤10) (h:UInt8.ofNat (240+k)=UInt8.ofNat (240+k')):k=k':=by
 have:=congrArg UInt8.toNat h;simp only [UInt8.toNat_ofNat'] at this;omega
theorem toList_inj {s t:ByteArray} (h:s.data.toList=t.data.toList):s=t:=by
 obtain ⟨s⟩:=s;obtain ⟨t⟩:=t;congr 1;exact Array.toList_inj.1 h
theorem j6 {s t:List UInt8} {r r':List UInt8} (hs:s.length<4294967296) (ht:t.length<4294967296) (h:q4 s.length++(s++r)=q4 t.length++(t++r')):s=t∧r=r':=by
 obtain ⟨h1,h2⟩:=ik hs ht h;exact List.append_inj h2 h1
theorem aD (s:ByteArray):s.data.toList.length=s.size:=rfl
theorem MG {k a b n k' a' b' n':Nat} {s s':ByteArray} {r r':List UInt8} (h:hd k a b s n) (h':hd k' a' b' s' n')
  (he:head k a b s.data.toList n++r=head k' a' b' s'.data.toList n'++r'):k=k'∧a=a'∧b=b'∧s=s'∧n=n'∧r=r':=by
 unfold head at he;simp only [List.cons_append,List.cons.injEq] at he;obtain ⟨h1,h2⟩:=he;obtain rfl:=Qr (zg h).2 (zg h').2 h1;have hk:=zg h;refine ⟨rfl,?_⟩;obtain rfl | rfl | rfl | rfl | rfl | rfl | rfl | rfl | rfl | rfl:k=1∨k=2∨k=3∨k=4∨k=5∨k=6∨k=7∨k=8∨k=9∨k=10:=by omega
 ·simp only [hd] at h h'
  simp only [mid,List.append_assoc] at h2;obtain ⟨e1,e2⟩:=j6 (by rw [aD];exact h.2.2.2) (by rw [aD];exact h'.2.2.2) h2;exact ⟨by omega,by omega,toList_inj e1,by omega,e2⟩
 ·simp only [hd] at h h'
  simp only [mid,List.append_assoc] at h2;obtain ⟨e1,e2⟩:=ik (by omega) (by omega) h2;obtain ⟨e3,e4⟩:=ik (by omega) (by omega) e2;exact ⟨e1,e3,by rw [h.2.2.2,h'.2.2.2],by omega,e4⟩
 ·simp only [hd] at h h'
  simp only [mid] at h2;obtain ⟨e1,e2⟩:=ik (by omega) (by omega) h2;exact ⟨e1,by omega,by rw [h.2.2.2,h'.2.2.2],by omega,e2⟩
 ·simp only [hd] at h h'
  simp only [mid,List.nil_append] at h2;exact ⟨by omega,by omega,by rw [h.2.2.2,h'.2.2.2],by omega,h2⟩
 ·simp only [hd] at h h'
  simp only [mid,List.append_assoc] at h2;obtain ⟨e1,e2⟩:=j6 (by rw [aD];omega) (by rw [aD];omega) h2;obtain ⟨e3,e4⟩:=ik (by omega) (by omega) e2;exact ⟨by omega,by omega,toList_inj e1,e3,e4⟩
 ·simp only [hd] at h h'
  simp only [mid,List.append_assoc] at h2;obtain ⟨e1,e2⟩:=j6 (by rw [aD];omega) (by rw [aD];omega) h2;exact ⟨by omega,by omega,toList_inj e1,by omega,e2⟩
 ·simp only [hd] at h h'
  simp only [mid,List.nil_append] at h2;exact ⟨by omega,by omega,by rw [h.2.2.2,h'.2.2.2],by omega,h2⟩
 ·simp only [hd] at h h'
  simp only [mid,List.cons_append,List.nil_append,List.cons.injEq] at h2;have e1:=congrArg UInt8.toNat h2.1;simp only [UInt8.toNat_ofNat'] at e1;exact ⟨by omega,by omega,by rw [h.2.2.2,h'.2.2.2],by omega,h2.2⟩
 ·simp only [hd] at h h'
  simp only [mid] at h2;obtain ⟨e1,e2⟩:=ik (by omega) (by omega) h2;exact ⟨by omega,e1,by rw [h.2.2.2,h'.2.2.2],by omega,e2⟩
 ·simp only [hd] at h h'
  simp only [mid] at h2;obtain ⟨e1,e2⟩:=ik (by omega) (by omega) h2;exact ⟨by omega,by omega,by rw [h.2.2.2,h'.2.2.2],e1,e2⟩
mutual
theorem yS:∀(t t':Tm) (r r':List UInt8),good t→good t'→enc t++r=enc t'++r'→t=t'∧r=r'
 | .mk k a b s l,.mk k' a' b' s' l',r,r',h,h',he=>by
  simp only [good] at h h';simp only [enc,List.append_assoc] at he;obtain ⟨rfl,rfl,rfl,rfl,hn,he2⟩:=MG h.1 h'.1 he;obtain ⟨e1,e2⟩:=oW l l' r r' h.2.2 h'.2.2 hn he2;exact ⟨by rw [e1],e2⟩
theorem oW:∀(l l':List Tm) (r r':List UInt8),dX l→dX l'→l.length=l'.length→encs l++r=encs l'++r'→l=l'∧r=r'
 | [],[],r,r',_,_,_,he=>by
  simp only [encs,List.nil_append] at he;exact ⟨rfl,he⟩
 | [],_ :: _,_,_,_,_,hl,_=>by simp at hl
 | _ :: _,[],_,_,_,_,hl,_=>by simp at hl
 | t :: l,t' :: l',r,r',h,h',hl,he=>by
  simp only [dX] at h h';simp only [encs,List.append_assoc] at he;obtain ⟨e1,e2⟩:=yS t t' _ _ h.1 h'.1 he;obtain ⟨e3,e4⟩:=oW l l' r r' h.2 h'.2 (by simpa using hl) e2;exact ⟨by rw [e1,e3],e4⟩
end
def txt:Option Tm→List UInt8
 | none=>[]
 | some t=>enc t
theorem uf (t:Tm) (h:good t):∃r,enc t=UInt8.ofNat (240+t.k) :: r:=by
 obtain ⟨k,a,b,s,l⟩:=t;exact ⟨_,rfl⟩
def lim (t:Tm):Option Tm:=if (enc t).length≤131072 then some t else none
def eB:ByteArray:=⟨#[]⟩
def okN (n:Int):Bool:=decide (0≤n) && decide (n≤2147483647)
def aO (s:ByteArray):Option Tm:=lim (.mk 1 0 0 s [])
def ji (who n:Int):Option Tm:=if okN who && okN n then some (.mk 2 who.toNat n.toNat eB []) else none
def dW (who:Int):Option Tm:=if okN who then some (.mk 3 who.toNat 0 eB []) else none
def gG:Option Tm→Option Tm
 | some t=>if t.k=3 then some (.mk 4 0 0 eB [t]) else none
 | none=>none
def mR (g:ByteArray):Option Tm:=if 1≤g.size∧g.size≤2100 then some (.mk 5 0 0 g []) else none
def tlt (x y:Tm):Bool:=decide (x.a<y.a∨x.a=y.a∧x.b<y.b)
def ins (x:Tm):List Tm→List Tm
 | []=>[x]
 | y :: l=>if tlt x y then x :: y :: l else y :: ins x l
def zI:Option Tm→Option Tm→Option Tm
 | some s,some x=>if s.k=5∧x.k=2∧s.l.length<8 then some (.mk 5 0 0 s.s (ins x s.l)) else none
 | _,_=>none
def mX (alg:ByteArray):Option Tm→Option Tm→Option Tm
 | some key,some t=>if (1≤alg.size∧alg.size≤64)∧key.k=3 then lim (.mk 6 0 0 alg [key,t]) else none
 | _,_=>none
def kZ:Option Tm→Option Tm
 | some t=>lim (.mk 7 0 0 eB [t])
 | none=>none
def ou (c:Nat):Option Tm→Option Tm→Option Tm→Option Tm
 | some x,some y,some z=>lim (.mk 8 0 c eB [x,y,z])
 | _,_,_=>none
def Ca (n:Nat):Option Tm→Option Tm→Option Tm
 | some key,some t=>lim (.mk 9 0 n eB [key,t])
 | _,_=>none
def rA:List (Option Tm)→Option (List Tm)
 | []=>some []
 | some t :: l=>match rA l with
  | some r=>some (t :: r)
  | none=>none
 | none :: _=>none
def kX (l:List (Option Tm)):Option Tm :=
 if l.length≤32 then match rA l with
  | some r=>lim (.mk 10 0 0 eB r)
  | none=>none
 else none

def fine (t:Tm):Prop:=good t∧(enc t).length≤131072
def jN (o:Option Tm):Prop:=∀t,o=some t→fine t
theorem KT {t:Tm} (h:good t):jN (lim t):=by
 intro u hu;unfold lim at hu
 split at hu
 ·cases hu
  exact ⟨h,by assumption⟩
 ·cases hu
theorem xL {k a b:Nat} {s:ByteArray} (h:hd k a b s 0):good (.mk k a b s []):=by
 simp only [good,dX,List.length_nil,and_true];refine ⟨h,?_⟩;unfold kids
 split <;> simp
theorem DL {s:ByteArray} (h:s.size<4294967296):jN (aO s):=KT (xL ⟨rfl,rfl,rfl,h⟩)
theorem qK (who:Int):jN (dW who):=by
 intro t h;unfold dW okN at h
 split at h
 ·rename_i hc
  simp only [Bool.and_eq_true,decide_eq_true_eq] at hc;cases h
  exact ⟨xL ⟨by omega,rfl,rfl,rfl⟩,by simp [enc,head,mid,encs,q4]⟩
 ·cases h
theorem Gd {t:Tm} (h:good t) (hk:t.k=3):(enc t).length=5:=by
 obtain ⟨k,a,b,s,l⟩:=t;simp only [Tm.k] at hk;subst hk;simp only [good,hd] at h;have:l=[]:=List.eq_nil_of_length_eq_zero h.1.2.2.1;subst this;simp [enc,head,mid,encs,q4]
theorem Ja {t:Tm} (h:good t) (hk:t.k=2):(enc t).length=9:=by
 obtain ⟨k,a,b,s,l⟩:=t;simp only [Tm.k] at hk;subst hk;simp only [good,hd] at h;have:l=[]:=List.eq_nil_of_length_eq_zero h.1.2.2.1;subst this;simp [enc,head,mid,encs,q4]
theorem wP {o:Option Tm} (h:jN o):jN (gG o):=by
 intro t ht
 cases o with
 | none=>cases ht
 | some x =>
  unfold gG at ht;simp only at ht
  split at ht
  ·rename_i hk
   cases ht
   have hx:=(h x rfl).1;have:=Gd hx hk;refine ⟨?_,by simp [enc,head,mid,encs];omega⟩;simp only [good,dX,and_true];exact ⟨⟨rfl,rfl,rfl,rfl⟩,by simpa [kids] using hk,hx⟩
  ·cases ht
theorem rU (x:Tm) (l:List Tm):(ins x l).length=l.length+1:=by
 induction l with
 | nil=>rfl
 | cons y l ih =>
  unfold ins
  split
  ·simp
  ·simp [ih]
theorem zk {x z:Tm} {l:List Tm}:z∈ins x l↔z=x∨z∈l:=by
 induction l with
 | nil=>simp [ins]
 | cons y l ih =>
  unfold ins
  split
  ·simp
  ·simp only [List.mem_cons,ih]
   constructor
   ·rintro (h | h | h)
    ·exact .inr (.inl h)
    ·exact .inl h
    ·exact .inr (.inr h)
   ·rintro (h | h | h)
    ·exact .inr (.inl h)
    ·exact .inl h
    ·exact .inr (.inr h)
theorem uH {x y:Tm} (h:tlt x y=true):tle x y:=by
 unfold tlt at h;simp only [decide_eq_true_eq] at h;unfold tle;omega
theorem CG {x y:Tm} (h:¬ tlt x y=true):tle y x:=by
 unfold tlt at h;simp only [decide_eq_true_eq] at h;unfold tle;omega
theorem JE {x y z:Tm} (h:tle x y) (k:tle y z):tle x z:=by
 unfold tle at *;omega
theorem ug {x:Tm} {l:List Tm} (h:l.Pairwise tle):(ins x l).Pairwise tle:=by
 induction l with
 | nil=>simp [ins]
 | cons y l ih =>
  obtain ⟨h1,h2⟩:=List.pairwise_cons.1 h;unfold ins
  split
  ·rename_i hlt
   refine List.pairwise_cons.2 ⟨fun z hz=>?_,h⟩;rcases List.mem_cons.1 hz with rfl | hz
   ·exact uH hlt
   ·exact JE (uH hlt) (h1 z hz)
  ·rename_i hlt
   refine List.pairwise_cons.2 ⟨fun z hz=>?_,ih h2⟩;rcases zk.1 hz with rfl | hz
   ·exact CG hlt
   ·exact h1 z hz
theorem oh {l:List (Option Tm)} {r:List Tm} (h:rA l=some r):l=r.map some:=by
 induction l generalizing r with
 | nil=>cases h;rfl
 | cons o l ih =>
  cases o with
  | none=>cases h
  | some t =>
   unfold rA at h
   split at h
   ·rename_i r' hr
    cases h
    rw [ih hr];rfl
   ·cases h
theorem qh (r:List Tm):rA (r.map some)=some r:=by
 induction r with
 | nil=>rfl
 | cons t r ih=>simp [rA,ih]
theorem Kc {l:List (Option Tm)} (h:none∈l):rA l=none:=by
 cases e:rA l with
 | none=>rfl
 | some r =>
  rw [oh e] at h;simp at h
def hw (k a b:Nat) (s:ByteArray) (n:Nat):Prop :=
 match k with
 | 1=>a=0∧b=0∧n=0∧s.size<4294967296
 | 2=>a<4294967296∧b<4294967296∧n=0∧s=⟨#[]⟩
 | 3=>a<4294967296∧b=0∧n=0∧s=⟨#[]⟩
 | 4=>a=0∧b=0∧n=1∧s=⟨#[]⟩
 | 5=>a=0∧b=0∧n<4294967296∧s.size<4294967296
 | 6=>a=0∧b=0∧n=2∧s.size<4294967296
 | 7=>a=0∧b=0∧n=1∧s=⟨#[]⟩
 | 8=>a=0∧b<256∧n=3∧s=⟨#[]⟩
 | 9=>a=0∧b<4294967296∧n=2∧s=⟨#[]⟩
 | 10=>a=0∧b=0∧n<4294967296∧s=⟨#[]⟩
 | _=>False
theorem KF {k a b n:Nat} {s:ByteArray} (h:hd k a b s n):hw k a b s n:=by
 have hk:=zg h;obtain rfl | rfl | rfl | rfl | rfl | rfl | rfl | rfl | rfl | rfl:k=1∨k=2∨k=3∨k=4∨k=5∨k=6∨k=7∨k=8∨k=9∨k=10:=by omega
 all_goals (simp only [hd] at h;unfold hw)
 ·exact h
 ·exact ⟨by omega,by omega,h.2.2⟩
 ·exact ⟨by omega,h.2⟩
 ·exact h
 ·exact ⟨h.1,h.2.1,by omega,by omega⟩
 ·exact ⟨h.1,h.2.1,h.2.2.1,by omega⟩
 ·exact h
 ·exact h
 ·exact h
 ·exact ⟨h.1,h.2.1,by omega,h.2.2.2⟩
theorem yz {k a b n a' b' n':Nat} {s s':ByteArray} {r r':List UInt8} (h:hw k a b s n) (h':hw k a' b' s' n')
  (h2:mid k a b s.data.toList n++r=mid k a' b' s'.data.toList n'++r'):a=a'∧b=b'∧s=s'∧n=n'∧r=r':=by
 have hk:1≤k∧k≤10:=by
  unfold hw at h
  split at h <;> first | omega | exact h.elim
 obtain rfl | rfl | rfl | rfl | rfl | rfl | rfl | rfl | rfl | rfl:k=1∨k=2∨k=3∨k=4∨k=5∨k=6∨k=7∨k=8∨k=9∨k=10:=by omega
 all_goals simp only [hw] at h h'
 ·simp only [mid,List.append_assoc] at h2
  obtain ⟨e1,e2⟩:=j6 (by rw [aD];exact h.2.2.2) (by rw [aD];exact h'.2.2.2) h2;exact ⟨by omega,by omega,toList_inj e1,by omega,e2⟩
 ·simp only [mid,List.append_assoc] at h2
  obtain ⟨e1,e2⟩:=ik (by omega) (by omega) h2;obtain ⟨e3,e4⟩:=ik (by omega) (by omega) e2;exact ⟨e1,e3,by rw [h.2.2.2,h'.2.2.2],by omega,e4⟩
 ·simp only [mid] at h2
  obtain ⟨e1,e2⟩:=ik (by omega) (by omega) h2;exact ⟨e1,by omega,by rw [h.2.2.2,h'.2.2.2],by omega,e2⟩
 ·simp only [mid,List.nil_append] at h2
  exact ⟨by omega,by omega,by rw [h.2.2.2,h'.2.2.2],by omega,h2⟩
 ·simp only [mid,List.append_assoc] at h2
  obtain ⟨e1,e2⟩:=j6 (by rw [aD];omega) (by rw [aD];omega) h2;obtain ⟨e3,e4⟩:=ik (by omega) (by omega) e2;exact ⟨by omega,by omega,toList_inj e1,e3,e4⟩
 ·simp only [mid,List.append_assoc] at h2
  obtain ⟨e1,e2⟩:=j6 (by rw [aD];omega) (by rw [aD];omega) h2;exact ⟨by omega,by omega,toList_inj e1,by omega,e2⟩
 ·simp only [mid,List.nil_append] at h2
  exact ⟨by omega,by omega,by rw [h.2.2.2,h'.2.2.2],by omega,h2⟩
 ·simp only [mid,List.cons_append,List.nil_append,List.cons.injEq] at h2
  have e1:=congrArg UInt8.toNat h2.1;simp only [UInt8.toNat_ofNat'] at e1;exact ⟨by omega,by omega,by rw [h.2.2.2,h'.2.2.2],by omega,h2.2⟩
 ·simp only [mid] at h2
  obtain ⟨e1,e2⟩:=ik (by omega) (by omega) h2;exact ⟨by omega,e1,by rw [h.2.2.2,h'.2.2.2],by omega,e2⟩
 ·simp only [mid] at h2
  obtain ⟨e1,e2⟩:=ik (by omega) (by omega) h2;exact ⟨by omega,by omega,by rw [h.2.2.2,h'.2.2.2],e1,e2⟩

def NoT (s:List UInt8):Prop:=∀t r,good t→s≠enc t++r
def GG (n:Nat) (s:List UInt8):Prop:=∀l r,dX l→l.length=n→s≠encs l++r
theorem tY {t:Tm} (h:good t):1≤t.k∧t.k≤10:=by
 cases t
 simp only [good] at h;exact zg h.1
theorem Aj (t:Tm) (r:List UInt8):enc t++r=UInt8.ofNat (240+t.k) :: (mid t.k t.a t.b t.s.data.toList t.l.length++(encs t.l++r)):=by
 obtain ⟨k,a,b,s,l⟩:=t;simp [enc,head,Tm.k,Tm.a,Tm.b,Tm.s,Tm.l]
section
variable {c : UInt8} {k a b n : Nat} {s : ByteArray} {s1 s2 r : List UInt8} {l : List Tm}
theorem zu {t:Tm} (ht:good t) (hc:c.toNat=240+k) (e:c :: s1=enc t++r):t.k=k∧hd k t.a t.b t.s t.l.length∧kids k t.l∧dX t.l∧s1=mid k t.a t.b t.s.data.toList t.l.length++(encs t.l++r):=by
 rw [Aj,List.cons.injEq] at e;have hk:=tY ht;have h1:=congrArg UInt8.toNat e.1;simp only [UInt8.toNat_ofNat'] at h1;obtain rfl:k=t.k:=by omega
 obtain ⟨k,a,b,s,l⟩:=t;simp only [good] at ht;exact ⟨rfl,ht.1,ht.2.1,ht.2.2,e.2⟩
theorem gU (hc:c.toNat=240+k) (h:∀a b s n s2,hd k a b s n→s1≠mid k a b s.data.toList n++s2):NoT (c :: s1):=by
 intro t r ht e;obtain ⟨_,h1,_,_,h4⟩:=zu ht hc e;exact h _ _ _ _ _ h1 h4
theorem Nl (hc:c.toNat=240+k) (hh:hw k a b s n) (e1:s1=mid k a b s.data.toList n++s2) (h:¬ hd k a b s n):NoT (c :: s1):=by
 intro t r ht e;obtain ⟨_,h1,_,_,h4⟩:=zu ht hc e;rw [e1] at h4;obtain ⟨rfl,rfl,rfl,rfl,_⟩:=yz hh (KF h1) h4;exact h h1
theorem Rj (hc:c.toNat=240+k) (hh:hw k a b s n) (e1:s1=mid k a b s.data.toList n++s2) (h:GG n s2):NoT (c :: s1):=by
 intro t r ht e;obtain ⟨_,h1,_,h3,h4⟩:=zu ht hc e;rw [e1] at h4;obtain ⟨_,_,_,e5,e6⟩:=yz hh (KF h1) h4;exact h _ _ h3 e5.symm e6
theorem Nw (hc:c.toNat=240+k) (hh:hw k a b s n) (e1:s1=mid k a b s.data.toList n++s2) (hl:dX l) (hn:l.length=n) (e2:s2=encs l++r) (h:¬ kids k l):NoT (c :: s1):=by
 intro t r' ht e;obtain ⟨_,h1,h2,h3,h4⟩:=zu ht hc e;rw [e1] at h4;obtain ⟨_,_,_,e5,e6⟩:=yz hh (KF h1) h4;rw [e2] at e6;obtain ⟨rfl,_⟩:=oW _ _ _ _ hl h3 (by omega) e6;exact h h2
theorem Ox (hc:c.toNat=240+k) (hk:k≤10) (e1:s1=mid k a b s.data.toList n++s2) (hn:l.length=n) (e2:s2=encs l++r):c :: s1=enc (.mk k a b s l)++r:=by
 rw [Aj,e1,e2,List.cons.injEq];refine ⟨UInt8.toNat_inj.1 ?_,by rw [←hn];rfl⟩;rw [hc,UInt8.toNat_ofNat'];simp only [Tm.k];omega
end
theorem I5 {i n:Nat} {l:List Tm} {s s':List UInt8} (hl:dX l) (hi:l.length=i) (h:i<n) (e:s=encs l++s') (h':NoT s'):GG n s:=by
 intro m r hm hmn e2;have hg:=(jf m).1 hm
 have e3:m=m.take i++(m[i]'(by omega) :: m.drop (i+1)):=by
  conv=>lhs;rw [←List.take_append_drop i m]
  rw [List.drop_eq_getElem_cons (by omega)]
 rw [e,e3,iG,List.append_assoc] at e2;obtain ⟨_,e4⟩:=oW l (m.take i) _ _ hl ((jf _).2 fun t ht=>hg t (List.mem_of_mem_take ht)) (by rw [List.length_take];omega) e2;simp only [encs,List.append_assoc] at e4;exact h' _ _ (hg _ (List.getElem_mem _)) e4
theorem Eg {l:List Tm} {t:Tm} (h:dX l) (ht:good t):dX (l++[t]):=by
 rw [jf] at h ⊢;intro x hx;rcases List.mem_append.1 hx with hx | hx
 ·exact h x hx
 ·rw [List.mem_singleton] at hx
  rw [hx];exact ht
theorem lY {t:Tm} (h:good t) (hk:t.k=2):enc t=UInt8.ofNat 242 :: (q4 t.a++q4 t.b)∧t.a<2147483648∧t.b<2147483648∧t=.mk 2 t.a t.b eB []:=by
 obtain ⟨k,a,b,s,l⟩:=t;simp only [Tm.k] at hk;subst hk;simp only [good,hd] at h;have:l=[]:=List.eq_nil_of_length_eq_zero h.1.2.2.1;subst this;simp only [Tm.a,Tm.b];refine ⟨by simp [enc,head,mid,encs],h.1.1,h.1.2.1,by rw [h.1.2.2.2];rfl⟩
def fM (l:List Nat):List UInt8:=l.flatMap fun i=>Go.Lib.decDigits i++[32]
theorem Dn (l:List Nat) (i:Nat):fM (l++[i])=fM l++(Go.Lib.decDigits i++[32]):=by simp [fM]
theorem Fw (u:Nat):Go.Lib.decDigits u=if u<10 then [UInt8.ofNat (48+u)] else Go.Lib.decDigits (u / 10)++[UInt8.ofNat (48+u % 10)]:=by
 by_cases h:u<10
 ·rw [Go.Lib.decDigits,dif_pos h,if_pos h]
 ·rw [Go.Lib.decDigits,dif_neg h,if_neg h]
def GM (l:List UInt8):Nat:=l.foldl (fun a c=>a*10+(c.toNat - 48)) 0
theorem Gy (l:List UInt8) (c:UInt8):GM (l++[c])=GM l*10+(c.toNat - 48):=by simp [GM]
theorem AR (u:Nat):GM (Go.Lib.decDigits u)=u:=by
 induction u using Nat.strongRecOn with
 | _ u ih =>
  rw [Fw]
  split
  ·rename_i h
   simp [GM,UInt8.toNat_ofNat'];omega
  ·rename_i h
   rw [Gy,ih (u / 10) (by omega),UInt8.toNat_ofNat'];omega
theorem CE (u:Nat):∀c∈Go.Lib.decDigits u,c≠32:=by
 induction u using Nat.strongRecOn with
 | _ u ih =>
  rw [Fw]
  have key:∀d,d<10→UInt8.ofNat (48+d)≠32:=by
   intro d hd h;have:=congrArg UInt8.toNat h;simp only [UInt8.toNat_ofNat'] at this;have h32:(32:UInt8).toNat=32:=rfl;omega
  split
  ·rename_i h
   intro c hc;rw [List.mem_singleton] at hc;subst hc;exact key u h
  ·rename_i h
   intro c hc;rcases List.mem_append.1 hc with hc | hc
   ·exact ih (u / 10) (by omega) c hc
   ·rw [List.mem_singleton] at hc
    subst hc;exact key _ (by omega)
theorem Pi {l l' r r':List UInt8} (h:∀c∈l,c≠32) (h':∀c∈l',c≠32) (e:l++32 :: r=l'++32 :: r'):l=l'∧r=r':=by
 induction l generalizing l' with
 | nil =>
  cases l' with
  | nil=>exact ⟨rfl,by simpa using e⟩
  | cons c l' =>
   simp only [List.nil_append,List.cons_append,List.cons.injEq] at e;exact absurd e.1.symm (h' c (by simp))
 | cons c l ih =>
  cases l' with
  | nil =>
   simp only [List.nil_append,List.cons_append,List.cons.injEq] at e;exact absurd e.1 (h c (by simp))
  | cons c' l' =>
   simp only [List.cons_append,List.cons.injEq] at e;obtain ⟨rfl,e⟩:=e;obtain ⟨rfl,e2⟩:=ih (fun x hx=>h x (by simp [hx])) (fun x hx=>h' x (by simp [hx])) e;exact ⟨rfl,e2⟩
theorem wS:∀{l l':List Nat},fM l=fM l'→l=l'
 | [],[],_=>rfl
 | [],i :: l,h=>by simp [fM] at h
 | i :: l,[],h=>by simp [fM] at h
 | i :: l,j :: l',h=>by
  have e1:fM (i :: l)=Go.Lib.decDigits i++32 :: fM l:=by simp [fM]
  have e2:fM (j :: l')=Go.Lib.decDigits j++32 :: fM l':=by simp [fM]
  rw [e1,e2] at h;obtain ⟨h1,h2⟩:=Pi (CE i) (CE j) h;have h3:=congrArg GM h1;rw [AR,AR] at h3;rw [h3,wS h2]
def arg (T:List Tm) (n:Int):Option Tm:=if 0≤n then T[n.toNat]? else none
structure AOK (T:List Tm):Prop where
 nodup:T.Nodup
 fine:∀t∈T,fine t
 sub:∀(i:Nat) (t:Tm),T[i]?=some t→∀c∈t.l,∃j:Nat,j<i∧T[j]?=some c
theorem Qk:AOK []:=⟨List.nodup_nil,by simp,by simp⟩
theorem rQ {T:List Tm} {n:Int} {t:Tm} (h:arg T n=some t):t∈T:=by
 unfold arg at h
 split at h
 ·exact List.mem_of_getElem? h
 ·cases h
theorem NS {T:List Tm} (hT:AOK T) (n:Int):jN (arg T n):=fun t h=>hT.fine t (rQ h)
theorem zC {T:List Tm} {i:Nat}:arg T (i:Int)=T[i]?:=by simp [arg]
theorem O6 {T:List Tm} {n:Int} (h:n<0):arg T n=none:=by simp [arg];omega
theorem oI {T T':List Tm} (h:T <+: T') {i:Nat} {t:Tm} (hi:T[i]?=some t):T'[i]?=some t:=by
 obtain ⟨r,rfl⟩:=h;rw [List.getElem?_append_left (List.getElem?_eq_some_iff.1 hi).1];exact hi
theorem QH {T T':List Tm} (h:T <+: T') {n:Int} {t:Tm} (hi:arg T n=some t):arg T' n=some t:=by
 unfold arg at hi ⊢
 split at hi
 ·rename_i h0
  rw [if_pos h0];exact oI h hi
 ·cases hi
theorem rM {T:List Tm} (hT:AOK T) {i j:Nat} {t:Tm} (hi:T[i]?=some t) (hj:T[j]?=some t):i=j :=
 (List.getElem?_inj (List.getElem?_eq_some_iff.1 hi).1 hT.nodup).1 (hi.trans hj.symm)
theorem P5 {T:List Tm} (hT:AOK T) {n m:Int} {t:Tm} (hi:arg T n=some t) (hj:arg T m=some t):n=m:=by
 unfold arg at hi hj
 split at hi
 ·split at hj
  ·have:=rM hT hi hj
   omega
  ·cases hj
 ·cases hi
def Idn (T:List Tm) (o:Option Tm) (n:Int):Prop:=arg T n=o∧(o=none→n=-1)
theorem cu (T:List Tm):Idn T none (-1):=⟨rfl,fun _=>rfl⟩
theorem Idn.pre {T T':List Tm} {o:Option Tm} {n:Int} (h:Idn T o n) (hp:T <+: T'):Idn T' o n:=by
 obtain ⟨h1,h2⟩:=h
 cases o with
 | none=>rw [h2 rfl];exact cu _
 | some t=>exact ⟨QH hp h1,fun e=>by cases e⟩
theorem Idn.eq_iff {T:List Tm} (hT:AOK T) {o p:Option Tm} {n m:Int} (h:Idn T o n) (h':Idn T p m):n=m↔o=p:=by
 constructor
 ·rintro rfl
  rw [←h.1,h'.1]
 ·rintro rfl
  cases o with
  | none=>rw [h.2 rfl,h'.2 rfl]
  | some t=>exact P5 hT h.1 h'.1
theorem Idn.none_iff {T:List Tm} {o:Option Tm} {n:Int} (h:Idn T o n):n=-1↔o=none:=by
 constructor
 ·rintro rfl
  exact h.1.symm
 ·exact h.2
theorem Idn.range {T:List Tm} {o:Option Tm} {n:Int} (h:Idn T o n):-1≤n∧n<T.length:=by
 cases o with
 | none=>rw [h.2 rfl];omega
 | some t =>
  have:=h.1;unfold arg at this
  split at this
  ·have:=(List.getElem?_eq_some_iff.1 this).1
   omega
  ·cases this
def Put (T:List Tm) (o:Option Tm) (T':List Tm) (n:Int):Prop :=
 (o=none∧T'=T∧n=-1)∨∃t,∃i:Nat,o=some t∧n=(i:Int)∧T'[i]?=some t∧(T'=T∨t ∉ T∧T'=T++[t])
theorem Ml (T:List Tm):Put T none T (-1):=.inl ⟨rfl,rfl,rfl⟩
theorem Ql {T:List Tm} {i:Nat} {t:Tm} (h:T[i]?=some t):Put T (some t) T i:=.inr ⟨t,i,rfl,rfl,h,.inl rfl⟩
theorem F6 {T:List Tm} {t:Tm} (h:t ∉ T):Put T (some t) (T++[t]) T.length:=.inr ⟨t,T.length,rfl,rfl,by simp,.inr ⟨h,rfl⟩⟩
theorem Put.pre {T T':List Tm} {o:Option Tm} {n:Int} (h:Put T o T' n):T <+: T':=by
 rcases h with ⟨_,rfl,_⟩ | ⟨t,i,_,_,_,rfl | ⟨_,rfl⟩⟩
 ·exact List.prefix_refl _
 ·exact List.prefix_refl _
 ·exact List.prefix_append _ _
theorem Put.idn {T T':List Tm} {o:Option Tm} {n:Int} (h:Put T o T' n):Idn T' o n:=by
 rcases h with ⟨rfl,rfl,rfl⟩ | ⟨t,i,rfl,rfl,h,_⟩
 ·exact cu _
 ·exact ⟨by rw [zC];exact h,fun e=>by cases e⟩
theorem Put.len {T T':List Tm} {o:Option Tm} {n:Int} (h:Put T o T' n):T'.length≤T.length+1:=by
 rcases h with ⟨_,rfl,_⟩ | ⟨t,i,_,_,_,rfl | ⟨_,rfl⟩⟩ <;> simp
def dJ (T:List Tm) (l:List Tm) (js:List Nat):Prop:=js.map (fun j=>T[j]?)=l.map some
theorem dJ.len {T l:List Tm} {js:List Nat} (h:dJ T l js):js.length=l.length:=by
 have:=congrArg List.length h;simpa using this
theorem dJ.pre {T T' l:List Tm} {js:List Nat} (h:dJ T l js) (hp:T <+: T'):dJ T' l js:=by
 unfold dJ at h ⊢;rw [←h];refine List.map_congr_left fun j hj=>?_
 have h1:T[j]?∈l.map some:=by
  rw [←h];exact List.mem_map.2 ⟨j,hj,rfl⟩
 obtain ⟨t,_,ht⟩:=List.mem_map.1 h1;rw [←ht];exact oI hp ht.symm
theorem dJ.inj {T l:List Tm} (hT:AOK T) {js ks:List Nat} (h:dJ T l js) (h':dJ T l ks):js=ks:=by
 have h0:js.map (fun j=>T[j]?)=ks.map (fun j=>T[j]?):=h.trans h'.symm
 have hs:∀j∈js,∃t,T[j]?=some t:=by
  intro j hj
  have h1:T[j]?∈l.map some:=by
   rw [←h];exact List.mem_map.2 ⟨j,hj,rfl⟩
  obtain ⟨t,_,ht⟩:=List.mem_map.1 h1;exact ⟨t,ht.symm⟩
 clear h h'
 induction js generalizing ks with
 | nil =>
  cases ks with
  | nil=>rfl
  | cons k ks=>simp at h0
 | cons j js ih =>
  cases ks with
  | nil=>simp at h0
  | cons k ks =>
   simp only [List.map_cons,List.cons.injEq] at h0;obtain ⟨t,ht⟩:=hs j (by simp);rw [rM hT ht (h0.1 ▸ ht),ih h0.2 fun j hj=>hs j (by simp [hj])]
theorem dJ.back {T l m:List Tm} {js:List Nat} (h:dJ T l js) (h':dJ T m js):l=m:=by
 have h0:l.map some=m.map some:=h.symm.trans h';exact (List.map_inj_right fun _ _ e=>by injection e).1 h0
theorem dJ.at_ {T l:List Tm} {js:List Nat} (h:dJ T l js) {p:Nat} (hp:p<js.length):∃c,l[p]?=some c∧T[js[p]]?=some c:=by
 have h1:=congrArg (fun x=>x[p]?) h;simp only [List.getElem?_map,List.getElem?_eq_getElem hp,Option.map_some] at h1
 cases e:l[p]? with
 | none=>rw [e] at h1;simp at h1
 | some c=>rw [e] at h1;exact ⟨c,rfl,by simpa using h1⟩
theorem dJ.snoc {T l:List Tm} {js:List Nat} {j:Nat} {c:Tm} (h:dJ T l js) (hj:T[j]?=some c):dJ T (l++[c]) (js++[j]):=by
 unfold dJ at h ⊢;rw [List.map_append,h];simp [hj]
theorem PM {T T':List Tm} (hT:AOK T) {o:Option Tm} {n:Int} (ho:jN o) (hs:∀t,o=some t→∀c∈t.l,∃j:Nat,T[j]?=some c) (h:Put T o T' n):AOK T':=by
 rcases h with ⟨_,rfl,_⟩ | ⟨t,i,rfl,_,_,rfl | ⟨hn,rfl⟩⟩
 ·exact hT
 ·exact hT
 ·refine ⟨?_,?_,?_⟩
  ·rw [List.nodup_append]
   refine ⟨hT.nodup,by simp,?_⟩;rintro a ha b hb rfl;rw [List.mem_singleton] at hb;subst hb;exact hn ha
  ·intro u hu
   rcases List.mem_append.1 hu with hu | hu
   ·exact hT.fine u hu
   ·rw [List.mem_singleton] at hu
    subst hu;exact ho _ rfl
  ·intro j u hj c hc
   rcases Nat.lt_or_ge j T.length with hlt | hge
   ·rw [List.getElem?_append_left hlt] at hj
    obtain ⟨k,hk,hkc⟩:=hT.sub j u hj c hc;exact ⟨k,hk,oI (List.prefix_append _ _) hkc⟩
   ·rw [List.getElem?_append_right hge] at hj
    have hj0:j - T.length=0:=by
     rcases Nat.eq_zero_or_pos (j - T.length) with h0 | h0
     ·exact h0
     ·rw [List.getElem?_eq_none (by simp;omega)] at hj;cases hj
    rw [hj0] at hj;simp only [List.getElem?_cons_zero,Option.some.injEq] at hj;subst hj;obtain ⟨k,hk⟩:=hs _ rfl c hc;exact ⟨k,by have:=(List.getElem?_eq_some_iff.1 hk).1;omega,oI (List.prefix_append _ _) hk⟩
def iQ (T:List Tm) (ns:List Int):Option (List Tm):=rA (ns.map (arg T))
theorem pY {T l:List Tm} {ns:List Int} (h:iQ T ns=some l):∃js:List Nat,ns=js.map Int.ofNat∧dJ T l js:=by
 have h1:=oh h;clear h
 induction ns generalizing l with
 | nil =>
  cases l with
  | nil=>exact ⟨[],rfl,rfl⟩
  | cons t l=>simp at h1
 | cons n ns ih =>
  cases l with
  | nil=>simp at h1
  | cons t l =>
   simp only [List.map_cons,List.cons.injEq] at h1;obtain ⟨js,rfl,h3⟩:=ih h1.2;have h4:=h1.1;unfold arg at h4
   split at h4
   ·rename_i h0
    refine ⟨n.toNat :: js,?_,?_⟩
    ·simp;omega
    ·unfold dJ at h3 ⊢
     simp [h3,h4]
   ·cases h4
structure Mk where
 k:Int
 a:Int
 b:Int
 c:Int
 s:ByteArray
instance:Inhabited Mk:=⟨⟨0,0,0,0,eB⟩⟩
def lT (ms:List (Option Tm)) (i:Int):Option Tm:=if 0≤i then (ms[i.toNat]?).getD none else none
def Uj (ms:List (Option Tm)) (p n:Int):List (Option Tm):=if 0≤p then ((ms.drop p.toNat).take n.toNat).take 40 else []
def Ov (s:ByteArray):Nat:=match s.data.toList with
 | []=>0
 | c :: _=>c.toNat
def mkO (ms:List (Option Tm)) (x:Mk):Option Tm :=
 if x.k=1 then aO x.s else
 if x.k=2 then ji x.a x.b else
 if x.k=3 then dW x.a else
 if x.k=4 then gG (lT ms x.a) else
 if x.k=5 then (if x.a<0 then mR x.s else zI (lT ms x.a) (lT ms x.b)) else
 if x.k=6 then mX x.s (lT ms x.a) (lT ms x.b) else
 if x.k=7 then kZ (lT ms x.a) else
 if x.k=8 then ou (Ov x.s) (lT ms x.a) (lT ms x.b) (lT ms x.c) else
 if x.k=9 then Ca (x.c % 4294967296).toNat (lT ms x.a) (lT ms x.b) else
 if x.k=10 then kX (Uj ms x.a x.b) else none
def makes (l:List Mk):List (Option Tm):=l.foldl (fun ms x=>ms++[mkO ms x]) []
def eP (T:List Tm) (k a b:Nat) (s:ByteArray) (ns:List Int):Option Tm:=match iQ T ns with
 | some l=>lim (.mk k a b s l)
 | none=>none
theorem JU {T:List Tm} {ns:List Int} {l:List Tm} {n:Int} {t:Tm} (h:iQ T ns=some l) (ht:arg T n=some t):iQ T (ns++[n])=some (l++[t]):=by
 unfold iQ at h ⊢;have e:=oh h;rw [List.map_append,e];simp only [List.map_cons,List.map_nil,ht];have:=qh (l++[t]);simpa using this
theorem IJ {T:List Tm} {ns:List Int} {n:Int} (hn:n∈ns) (h:arg T n=none):iQ T ns=none:=Kc (by rw [←h];exact List.mem_map.2 ⟨n,hn,rfl⟩)
theorem vR (l:List Tm) (t:Tm):(encs (l++[t])).length=(encs l).length+(enc t).length:=by
 rw [iG];simp [encs]
theorem gz {t:Tm} (h:(enc t).length≤131072):lim t=some t:=by unfold lim;rw [if_pos h]
theorem KL {T:List Tm} {ns:List Int} {l:List Tm} (h:iQ T ns=some l):∀c∈l,∃j:Nat,T[j]?=some c:=by
 obtain ⟨js,_,h2⟩:=pY h;intro c hc
 have:some c∈js.map (fun j=>T[j]?):=by
  rw [h2];exact List.mem_map.2 ⟨c,hc,rfl⟩
 obtain ⟨j,_,hj⟩:=List.mem_map.1 this;exact ⟨j,hj⟩
theorem sQ {T:List Tm} {ns:List Int} {l:List Tm} (h:iQ T ns=some l):l.length=ns.length:=by
 obtain ⟨js,h1,h2⟩:=pY h;rw [h1,← h2.len];simp
section
variable {T : List Tm}
theorem Co {who n:Int} (h1:okN who=true) (h2:okN n=true):eP T 2 who.toNat n.toNat eB []=ji who n:=by
 unfold ji;rw [h1,h2];show lim _=_;rw [gz (by simp [enc,head,mid,encs,q4])];rfl
theorem GV {who:Int} (h1:okN who=true):eP T 3 who.toNat 0 eB []=dW who:=by
 unfold dW;rw [h1];show lim _=_;rw [gz (by simp [enc,head,mid,encs,q4])];rfl
theorem gM {n:Int}:okN n=true↔0≤n∧n≤2147483647:=by simp [okN]
def mH (o:Option Tm) (k:Int):Bool:=match o with
 | some t=>(t.k:Int) == k
 | none=>false
theorem gZ {o:Option Tm} {k:Nat} (h:mH o k=true):∃t,o=some t∧t.k=k:=by
 cases o with
 | none=>cases h
 | some t =>
  simp only [mH,beq_iff_eq] at h;exact ⟨t,rfl,by omega⟩
theorem nX {o:Option Tm} {k:Nat} (h:mH o k=false) {t:Tm} (ht:o=some t):t.k≠k:=by
 subst ht;intro e;simp [mH,e] at h
theorem Jk (hT:AOK T) {n:Int} (h:mH (arg T n) 3=true):eP T 4 0 0 eB [n]=gG (arg T n):=by
 obtain ⟨t,ht,hk⟩:=gZ (k:=3) h;have hf:=hT.fine t (rQ ht);have hl:=Gd hf.1 hk;unfold eP iQ;rw [List.map_cons,List.map_nil,ht];show lim _=if t.k=3 then _ else none;rw [if_pos hk,gz (by simp [enc,head,mid,encs];omega)]
theorem Gl {o:Option Tm} (h:mH o 3=false):gG o=none:=by
 cases o with
 | none=>rfl
 | some t =>
  show (if t.k=3 then _ else none)=none;rw [if_neg (nX (k:=3) h rfl)]
theorem Fs {g:ByteArray} (h:1≤g.size∧g.size≤2100):eP T 5 0 0 g []=mR g:=by
 unfold mR;rw [if_pos h];show lim _=_;rw [gz (by simp [enc,head,mid,encs,q4];have:g.data.size=g.size:=rfl;omega)]
theorem CU (n:Int):eP T 7 0 0 eB [n]=kZ (arg T n):=by
 unfold eP iQ;rw [List.map_cons,List.map_nil];cases arg T n <;> rfl
theorem yV (c:Nat) (n m p:Int):eP T 8 0 c eB [n,m,p]=ou c (arg T n) (arg T m) (arg T p):=by
 unfold eP iQ;simp only [List.map_cons,List.map_nil];cases arg T n <;> cases arg T m <;> cases arg T p <;> rfl
theorem Da (c:Nat) (n m:Int):eP T 9 0 c eB [n,m]=Ca c (arg T n) (arg T m):=by
 unfold eP iQ;simp only [List.map_cons,List.map_nil];cases arg T n <;> cases arg T m <;> rfl
theorem Ej {alg:ByteArray} (ha:1≤alg.size∧alg.size≤64) {n m:Int} (h:mH (arg T n) 3=true):eP T 6 0 0 alg [n,m]=mX alg (arg T n) (arg T m):=by
 obtain ⟨t,ht,hk⟩:=gZ (k:=3) h;unfold eP iQ;simp only [List.map_cons,List.map_nil];rw [ht]
 cases arg T m with
 | none=>rfl
 | some u =>
  show lim _=if _ then _ else none;rw [if_pos ⟨ha,hk⟩]
theorem Ag {alg:ByteArray} {o p:Option Tm} (h:¬ (1≤alg.size∧alg.size≤64)∨mH o 3=false):mX alg o p=none:=by
 cases o with
 | none=>rfl
 | some t=>cases p with
  | none=>rfl
  | some u =>
   show (if _ then _ else none)=none;rw [if_neg];rintro ⟨h1,h2⟩;rcases h with h | h
   ·exact h h1
   ·exact nX (k:=3) h rfl h2
theorem DI {ns:List Int} (h:ns.length≤32):eP T 10 0 0 eB ns=kX (ns.map (arg T)):=by
 unfold eP kX iQ;rw [if_pos (by simpa using h)] <;> rfl
theorem EG {l:List (Option Tm)} (h:¬ l.length≤32):kX l=none:=by unfold kX;rw [if_neg h]
theorem JL (hT:AOK T) {t:Tm} (hm:t∈T) (hk:t.k=5):t.l.length≤8:=by
 obtain ⟨k,a,b,s,l⟩:=t;simp only [Tm.k] at hk;subst hk;have:=(hT.fine _ hm).1;simp only [good,hd] at this;exact this.1.2.2.1
end
theorem En {s1 r:List UInt8} {n:Nat} (h:s1.length<4):s1≠q4 n++r:=by
 rintro rfl;rw [List.length_append,bU] at h;omega
theorem kP {s1:List UInt8} (h:4≤s1.length):s1=q4 (n4 s1)++s1.drop 4:=by
 match s1,h with
 | x :: y :: z :: u :: r,_=>rw [QY];rfl
theorem Dw {s1 s r:List UInt8} (h:s1.length<4∨s1.length - 4<n4 s1) (hs:s.length<4294967296):s1≠q4 s.length++(s++r):=by
 rintro rfl;rw [xu hs,List.length_append,bU,List.length_append] at h;omega
theorem yj {s1:List UInt8} (h4:4≤s1.length) (hn:n4 s1≤s1.length - 4):((s1.drop 4).take (n4 s1)).length=n4 s1∧s1=q4 (n4 s1)++((s1.drop 4).take (n4 s1)++s1.drop (4+n4 s1)):=by
 refine ⟨by rw [List.length_take,List.length_drop];omega,?_⟩;rw [←List.drop_drop,List.take_append_drop];exact kP h4
section
variable {c : UInt8} {s1 : List UInt8}
theorem no1 (hc:c.toNat=241) (h:s1.length<4∨s1.length - 4<n4 s1):NoT (c :: s1) :=
 gU (k:=1) hc fun a b s n s2 hh e=>by
  simp only [hd] at hh;simp only [mid,List.append_assoc] at e;exact Dw h (by rw [aD];exact hh.2.2.2) e
theorem no2 (hc:c.toNat=242) (h:s1.length<8):NoT (c :: s1) :=
 gU (k:=2) hc fun a b s n s2 hh e=>by
  rw [e] at h;simp only [mid,List.length_append,bU] at h;omega
theorem no3 (hc:c.toNat=243) (h:s1.length<4):NoT (c :: s1) :=
 gU (k:=3) hc fun a b s n s2 hh e=>En h e
theorem no5 (hc:c.toNat=245) (h:s1.length<4∨s1.length - 4<n4 s1):NoT (c :: s1) :=
 gU (k:=5) hc fun a b s n s2 hh e=>by
  simp only [hd] at hh;simp only [mid,List.append_assoc] at e;exact Dw h (by rw [aD];omega) e
theorem TY (hc:c.toNat=245) (h4:4≤s1.length) (h:s1.length<8+n4 s1):NoT (c :: s1) :=
 gU (k:=5) hc fun a b s n s2 hh e=>by
  simp only [hd] at hh;have hz:s.data.toList.length<4294967296:=by rw [aD];omega
  simp only [mid,List.append_assoc] at e;rw [e,xu hz] at h;simp only [List.length_append,bU] at h;omega
theorem no6 (hc:c.toNat=246) (h:s1.length<4∨s1.length - 4<n4 s1):NoT (c :: s1) :=
 gU (k:=6) hc fun a b s n s2 hh e=>by
  simp only [hd] at hh;simp only [mid,List.append_assoc] at e;exact Dw h (by rw [aD];omega) e
theorem no8 (hc:c.toNat=248) (h:s1=[]):NoT (c :: s1) :=
 gU (k:=8) hc fun a b s n s2 hh e=>by
  rw [h] at e;simp [mid] at e
theorem no9 (hc:c.toNat=249) (h:s1.length<4):NoT (c :: s1) :=
 gU (k:=9) hc fun a b s n s2 hh e=>En h e
theorem Ul (hc:c.toNat=250) (h:s1.length<4):NoT (c :: s1) :=
 gU (k:=10) hc fun a b s n s2 hh e=>En h e
end
def Hed (k a b:Nat) (s:ByteArray) (n:Nat) (s1 s2:List UInt8):Prop:=hw k a b s n∧s1=mid k a b s.data.toList n++s2
section
variable {s1 : List UInt8}
theorem TM (h4:4≤s1.length) (hn:n4 s1≤s1.length - 4):Hed 1 0 0 ⟨((s1.drop 4).take (n4 s1)).toArray⟩ 0 s1 (s1.drop (4+n4 s1)):=by
 obtain ⟨h1,h2⟩:=yj h4 hn;have h3:=jT s1;refine ⟨⟨rfl,rfl,rfl,by show ((s1.drop 4).take (n4 s1)).length<_;omega⟩,?_⟩;show s1=(q4 ((s1.drop 4).take (n4 s1)).length++(s1.drop 4).take (n4 s1))++_;rw [h1,List.append_assoc];exact h2
theorem TP (h8:8≤s1.length):Hed 2 (n4 s1) (n4 (s1.drop 4)) eB 0 s1 (s1.drop 8):=by
 refine ⟨⟨jT _,jT _,rfl,rfl⟩,?_⟩;show s1=(q4 _++q4 _)++_;have h1:=kP (s1:=s1) (by omega);have h2:=kP (s1:=s1.drop 4) (by rw [List.length_drop];omega);rw [List.drop_drop] at h2;rw [List.append_assoc,← h2];exact h1
theorem Ub (h4:4≤s1.length):Hed 3 (n4 s1) 0 eB 0 s1 (s1.drop 4):=⟨⟨jT _,rfl,rfl,rfl⟩,kP h4⟩
theorem TN:Hed 4 0 0 eB 1 s1 s1:=⟨⟨rfl,rfl,rfl,rfl⟩,rfl⟩
theorem Uq:Hed 7 0 0 eB 1 s1 s1:=⟨⟨rfl,rfl,rfl,rfl⟩,rfl⟩
theorem Ur (h4:4≤s1.length) (h:8+n4 s1≤s1.length):Hed 5 0 0 ⟨((s1.drop 4).take (n4 s1)).toArray⟩ (n4 (s1.drop (4+n4 s1))) s1 (s1.drop (8+n4 s1)):=by
 obtain ⟨h1,h2⟩:=yj (s1:=s1) h4 (by omega);have h3:=jT s1;refine ⟨⟨rfl,rfl,jT _,by show ((s1.drop 4).take (n4 s1)).length<_;omega⟩,?_⟩;show s1=(q4 ((s1.drop 4).take (n4 s1)).length++((s1.drop 4).take (n4 s1)++q4 _))++_;have h5:=kP (s1:=s1.drop (4+n4 s1)) (by rw [List.length_drop];omega);rw [List.drop_drop,show 4+n4 s1+4=8+n4 s1 by omega] at h5;rw [h1,List.append_assoc,List.append_assoc,← h5];exact h2
theorem TT (h4:4≤s1.length) (hn:n4 s1≤s1.length - 4):Hed 6 0 0 ⟨((s1.drop 4).take (n4 s1)).toArray⟩ 2 s1 (s1.drop (4+n4 s1)):=by
 obtain ⟨h1,h2⟩:=yj h4 hn;have h3:=jT s1;refine ⟨⟨rfl,rfl,rfl,by show ((s1.drop 4).take (n4 s1)).length<_;omega⟩,?_⟩;show s1=(q4 ((s1.drop 4).take (n4 s1)).length++(s1.drop 4).take (n4 s1))++_;rw [h1,List.append_assoc];exact h2
theorem TU {x:UInt8} {r:List UInt8}:Hed 8 0 x.toNat eB 3 (x :: r) r:=by
 refine ⟨⟨rfl,x.toNat_lt,rfl,rfl⟩,?_⟩;show x :: r=[UInt8.ofNat x.toNat]++r;rw [UInt8.ofNat_toNat];rfl
theorem TR (h4:4≤s1.length):Hed 9 0 (n4 s1) eB 2 s1 (s1.drop 4):=⟨⟨rfl,jT _,rfl,rfl⟩,kP h4⟩
theorem Tu (h4:4≤s1.length):Hed 10 0 0 eB (n4 s1) s1 (s1.drop 4):=⟨⟨rfl,rfl,jT _,rfl⟩,kP h4⟩
end
section
variable {c : UInt8} {k a b n : Nat} {s : ByteArray} {s1 s2 r : List UInt8} {l : List Tm}
theorem Hed.no (h:Hed k a b s n s1 s2) (hc:c.toNat=240+k) (h2:GG n s2):NoT (c :: s1):=Rj hc h.1 h.2 h2
theorem Hed.not (h:Hed k a b s n s1 s2) (hc:c.toNat=240+k) (hl:dX l) (hn:l.length=n) (e2:s2=encs l++r) (h2:¬ (hd k a b s n∧kids k l)):NoT (c :: s1):=by
 by_cases h3:hd k a b s n
 ·exact Nw hc h.1 h.2 hl hn e2 (fun h4=>h2 ⟨h3,h4⟩)
 ·exact Nl hc h.1 h.2 h3
theorem Hed.nohd (h:Hed k a b s n s1 s2) (hc:c.toNat=240+k) (h3:¬ hd k a b s n):NoT (c :: s1):=Nl hc h.1 h.2 h3
theorem Hed.yes (h:Hed k a b s n s1 s2) (hc:c.toNat=240+k) (hk:k≤10) (hl:dX l) (hn:l.length=n) (e2:s2=encs l++r) (h2:hd k a b s n∧kids k l):good (.mk k a b s l)∧c :: s1=enc (.mk k a b s l)++r:=by
 refine ⟨?_,Ox hc hk h.2 hn e2⟩;simp only [good];rw [hn];exact ⟨h2.1,h2.2,hl⟩
end
theorem kg {s:List UInt8} {p:Nat} (h:p<s.length):s.drop p=s[p] :: s.drop (p+1):=List.drop_eq_getElem_cons h
theorem PO {x y:Tm}:tle x y↔tlt y x=false:=by
 unfold tle tlt;rw [decide_eq_false_iff_not];omega
theorem LX {x:Tm}:∀{l:List Tm} {j:Nat},l.Pairwise tle→j≤l.length→(∀k (h:k<l.length),j≤k→tlt x l[k]=true)→(∀k (h:k<l.length),k<j→tlt x l[k]=false)→ins x l=l.take j++x :: l.drop j
 | [],j,_,hj,_,_=>by
  obtain rfl:j=0:=by simpa using hj
  rfl
 | y :: l,0,_,_,h1,_=>by
  have:=h1 0 (by simp) (Nat.le_refl _);simp only [List.getElem_cons_zero] at this;show (if tlt x y then _ else _)=_;rw [if_pos this];rfl
 | y :: l,j+1,hl,hj,h1,h2=>by
  have h0:=h2 0 (by simp) (by omega);simp only [List.getElem_cons_zero] at h0
  have ih:=LX (x:=x) (List.pairwise_cons.1 hl).2 (j:=j) (by simpa using hj) (fun k hk hjk=>by
   have:=h1 (k+1) (by simp;omega) (by omega)
   simpa using this) (fun k hk hjk=>by
   have:=h2 (k+1) (by simp;omega) (by omega)
   simpa using this)
  show (if tlt x y then _ else _)=_;rw [if_neg (by rw [h0];simp),ih];rfl
theorem LP {x:Tm} {l:List Tm} (hl:l.Pairwise tle) {j:Nat} (hj:j<l.length) (h:tlt x l[j]=false):∀k (hk:k<l.length),k<j+1→tlt x l[k]=false:=by
 intro k hk hkj;rcases Nat.lt_or_ge k j with h1 | h1
 ·have h2:=List.pairwise_iff_getElem.1 hl k j hk hj h1
  unfold tle at h2;unfold tlt at h ⊢;rw [decide_eq_false_iff_not] at h ⊢;omega
 ·obtain rfl:k=j:=by omega
  exact h
theorem RZ {l:List Tm} (hl:l.Pairwise tle) {i:Nat} (hi:i+1<l.length):tlt l[i+1] l[i]=false:=PO.1 (List.pairwise_iff_getElem.1 hl i (i+1) (by omega) hi (by omega))
def fZ (js:List Nat) (j x:Nat):List Nat:=js.take j++x :: js.drop j
theorem qb (js:List Nat) (j x:Nat) (h:j≤js.length):(fZ js j x).length=js.length+1:=by
 unfold fZ;simp;omega
theorem I8 (js:List Nat) (x:Nat):fZ js js.length x=js++[x]:=by simp [fZ]
theorem uW {js:List Nat} {j x:Nat} (h:j≤js.length):(fZ js j x)[j]?=some x:=by
 unfold fZ;rw [List.getElem?_append_right (by simp;omega)];simp [Nat.min_eq_left h]
theorem uJ {js:List Nat} {j x k:Nat} (h:j≤js.length) (hk:k<j):(fZ js j x)[k]?=js[k]?:=by
 unfold fZ;rw [List.getElem?_append_left (by simp;omega),List.getElem?_take_of_lt hk]
theorem sP {js:List Nat} {j x k:Nat} (h:j≤js.length) (hk:j<k):(fZ js j x)[k]?=js[k - 1]?:=by
 unfold fZ;rw [List.getElem?_append_right (by simp;omega),List.length_take,Nat.min_eq_left h];rw [show k - j=(k - 1 - j)+1 by omega,List.getElem?_cons_succ,List.getElem?_drop];congr 1;omega
theorem Dz {js:List Nat} {j x:Nat} (h:j<js.length):((fZ js (j+1) x).set (j+1) js[j]).set j x=fZ js j x:=by
 refine List.ext_getElem? fun k=>?_
 have hl:=qb js (j+1) x h;have hl0:=qb js j x (by omega)
 by_cases h1:k=j
 ·subst h1
  rw [List.getElem?_set_self (by rw [List.length_set,hl];omega),uW (by omega)]
 ·rw [List.getElem?_set_ne (fun e=>h1 e.symm)]
  by_cases h2:k=j+1
  ·subst h2
   rw [List.getElem?_set_self (by rw [hl];omega),sP (by omega) (by omega)];simp [h]
  ·rw [List.getElem?_set_ne (fun e=>h2 e.symm)]
   rcases Nat.lt_or_ge k j with h3 | h3
   ·rw [uJ (by omega) (by omega),uJ (by omega) h3]
   ·rw [sP (by omega) (by omega),sP (by omega) (by omega)]
theorem ET {T l:List Tm} {js:List Nat} {x:Tm} {jx:Nat} (h:dJ T l js) (hx:T[jx]?=some x) (j:Nat):dJ T (l.take j++x :: l.drop j) (fZ js j jx):=by
 unfold dJ at h ⊢;unfold fZ;rw [List.map_append,List.map_cons,List.map_take,List.map_drop,h,hx];simp [List.map_take,List.map_drop]
def rf (s:ByteArray) (p:Nat) (o:Option Tm) (p':Nat):Prop :=
 (o=none∧NoT (s.data.toList.drop p))∨∃t,o=some t∧good t∧s.data.toList.drop p=enc t++s.data.toList.drop p'
def ig (k a b:Nat) (s:ByteArray) (l:List Tm) (o:Option Tm):Prop :=
 (hd k a b s l.length∧kids k l→(enc (.mk k a b s l)).length≤131072→o=some (.mk k a b s l))∧(¬ (hd k a b s l.length∧kids k l)→o=none)
theorem qA {t:Tm} (h:(enc t).length≤131072):lim t=some t:=gz h
theorem zP (s:ByteArray) (hs:s.size<4294967296):ig 1 0 0 s [] (aO s) :=
 ⟨fun _ h=>qA h,fun h=>absurd ⟨⟨rfl,rfl,rfl,hs⟩,trivial⟩ h⟩
theorem yx (a b:Nat):ig 2 a b eB [] (ji a b):=by
 refine ⟨fun h _=>?_,fun h=>?_⟩
 ·have h1:=h.1
  simp only [hd] at h1;unfold ji okN;rw [if_pos (by simp;omega)];rfl
 ·unfold ji okN
  rw [if_neg];intro hc;simp only [Bool.and_eq_true,decide_eq_true_eq] at hc;exact h ⟨⟨by omega,by omega,rfl,rfl⟩,trivial⟩
theorem EX (a:Nat):ig 3 a 0 eB [] (dW a):=by
 refine ⟨fun h _=>?_,fun h=>?_⟩
 ·have h1:=h.1
  simp only [hd] at h1;unfold dW okN;rw [if_pos (by simp;omega)];rfl
 ·unfold dW okN
  rw [if_neg];intro hc;simp only [Bool.and_eq_true,decide_eq_true_eq] at hc;exact h ⟨⟨by omega,rfl,rfl,rfl⟩,trivial⟩
theorem EB (t:Tm):ig 4 0 0 eB [t] (gG (some t)):=by
 refine ⟨fun h _=>?_,fun h=>?_⟩
 ·have h1:t.k=3:=by simpa [kids] using h.2
  unfold gG;simp only;rw [if_pos h1]
 ·unfold gG
  simp only;rw [if_neg];intro hk;exact h ⟨⟨rfl,rfl,rfl,rfl⟩,by simpa [kids] using hk⟩
theorem Ak (alg:ByteArray) (t u:Tm):ig 6 0 0 alg [t,u] (mX alg (some t) (some u)):=by
 refine ⟨fun h hl=>?_,fun h=>?_⟩
 ·have h1:t.k=3:=by simpa [kids] using h.2
  have h2:=h.1;simp only [hd] at h2;unfold mX;simp only;rw [if_pos ⟨⟨h2.2.2.2.1,h2.2.2.2.2⟩,h1⟩];exact qA hl
 ·unfold mX
  simp only;rw [if_neg];rintro ⟨⟨h1,h2⟩,hk⟩;exact h ⟨⟨rfl,rfl,rfl,h1,h2⟩,by simpa [kids] using hk⟩
theorem zM (t:Tm):ig 7 0 0 eB [t] (kZ (some t)) :=
 ⟨fun _ h=>qA h,fun h=>absurd ⟨⟨rfl,rfl,rfl,rfl⟩,trivial⟩ h⟩
theorem vJ (c:Nat) (hc:c<256) (t u v:Tm):ig 8 0 c eB [t,u,v] (ou c (some t) (some u) (some v)) :=
 ⟨fun _ h=>qA h,fun h=>absurd ⟨⟨rfl,hc,rfl,rfl⟩,trivial⟩ h⟩
theorem Cj (n:Nat) (hn:n<4294967296) (t u:Tm):ig 9 0 n eB [t,u] (Ca n (some t) (some u)) :=
 ⟨fun _ h=>qA h,fun h=>absurd ⟨⟨rfl,hn,rfl,rfl⟩,trivial⟩ h⟩
theorem Cv (l:List Tm) (hl:l.length≤32):ig 10 0 0 eB l (kX (l.map some)):=by
 refine ⟨fun _ h=>?_,fun h=>absurd ⟨⟨rfl,rfl,hl,rfl⟩,trivial⟩ h⟩;unfold kX;rw [if_pos (by simpa using hl),qh];exact qA h
instance (x y:Tm):Decidable (tle x y):=inferInstanceAs (Decidable (_∨_))
def dL (g:ByteArray) (l:List Tm):Option Tm:=if (1≤g.size∧g.size≤2100)∧(∀x∈l,x.k=2)∧l.Pairwise tle then some (.mk 5 0 0 g l) else none
theorem lm (g:ByteArray) (l:List Tm) (hl:l.length≤8):ig 5 0 0 g l (dL g l):=by
 refine ⟨fun h _=>?_,fun h=>?_⟩
 ·have h1:=h.1
  simp only [hd] at h1;unfold dL;rw [if_pos ⟨⟨h1.2.2.2.1,h1.2.2.2.2⟩,h.2⟩]
 ·unfold dL
  rw [if_neg];rintro ⟨⟨h1,h2⟩,h3⟩;exact h ⟨⟨rfl,rfl,hl,h1,h2⟩,h3⟩
section
variable {s : ByteArray} {p p' : Nat}
theorem fE (h:NoT (s.data.toList.drop p)):rf s p none p':=.inl ⟨rfl,h⟩
theorem kr (hs:s.size≤131072) {k a b n:Nat} {s':ByteArray} {c:UInt8} {s1 s2:List UInt8} {l:List Tm} {o:Option Tm} (h1:s.data.toList.drop p=c :: s1) (hc:c.toNat=240+k) (hk:k≤10)
  (h:Hed k a b s' n s1 s2) (hl:dX l) (hn:l.length=n) (e2:s2=encs l++s.data.toList.drop p') (ho:ig k a b s' l o):rf s p o p':=by
 subst hn
 by_cases hh:hd k a b s' l.length∧kids k l
 ·obtain ⟨h3,h4⟩:=h.yes hc hk hl rfl e2 hh
  refine .inr ⟨_,ho.1 hh ?_,h3,h1.trans h4⟩;have h5:=congrArg List.length (h1.trans h4);rw [List.length_append,List.length_drop,aD] at h5;omega
 ·exact .inl ⟨ho.2 hh,by rw [h1];exact h.not hc hl rfl e2 hh⟩
theorem p9 {k a b n:Nat} {s':ByteArray} {c:UInt8} {s1 s2:List UInt8} (h1:s.data.toList.drop p=c :: s1) (hc:c.toNat=240+k) (h:Hed k a b s' n s1 s2) (h2:GG n s2):rf s p none p' :=
 fE (by rw [h1];exact h.no hc h2)
end
theorem NZ {c:UInt8} {s1:List UInt8} (h:¬ (241≤c.toNat∧c.toNat≤250)):NoT (c :: s1):=by
 intro t r ht e;obtain ⟨r2,hr⟩:=uf t ht;have hk:=tY ht;rw [hr,List.cons_append,List.cons.injEq] at e;have:=congrArg UInt8.toNat e.1;rw [UInt8.toNat_ofNat'] at this;omega
theorem Ct {x:Tm} {l:List Tm} (hl:l.Pairwise tle):(ins x l)[l.length]?=some x↔ins x l=l++[x]:=by
 constructor
 ·intro h
  induction l with
  | nil=>rfl
  | cons y l ih =>
   obtain ⟨h1,h2⟩:=List.pairwise_cons.1 hl;unfold ins at h ⊢
   split at h
   ·rename_i hlt
    exfalso;simp only [List.length_cons,List.getElem?_cons_succ] at h;have h3:x∈y :: l:=List.mem_of_getElem? h
    have h4:tle y x:=by
     rcases List.mem_cons.1 h3 with h5 | h5
     ·rw [h5];unfold tle;omega
     ·exact h1 x h5
    unfold tlt at hlt;unfold tle at h4;simp only [decide_eq_true_eq] at hlt;omega
   ·rename_i hlt
    rw [if_neg hlt];simp only [List.length_cons,List.getElem?_cons_succ] at h;rw [ih h2 h];rfl
 ·intro h
  rw [h];simp
theorem Qa {x:Tm} {l:List Tm} (h:(l++[x]).Pairwise tle):ins x l=l++[x]:=by
 induction l with
 | nil=>rfl
 | cons y l ih =>
  rw [List.cons_append] at h;obtain ⟨h1,h2⟩:=List.pairwise_cons.1 h;unfold ins;rw [if_neg,ih h2]
  ·rfl
  ·intro hlt
   have h4:=h1 x (by simp);unfold tlt at hlt;unfold tle at h4;simp only [decide_eq_true_eq] at hlt;omega
theorem Cn {x:Tm} {l:List Tm} (hl:l.Pairwise tle):(ins x l=l++[x])↔(l++[x]).Pairwise tle:=by
 constructor
 ·intro h
  rw [←h];exact ug hl
 ·exact Qa
theorem Eo {g:ByteArray} {l:List Tm} {x:Tm} (h:dL g l=some (.mk 5 0 0 g l)) (hx:x.k=2) (h8:l.length<8) :
  zI (some (.mk 5 0 0 g l)) (some x)=some (.mk 5 0 0 g (ins x l))∧((ins x l)[l.length]?=some x→ins x l=l++[x]∧dL g (l++[x])=some (.mk 5 0 0 g (l++[x])))∧((ins x l)[l.length]?≠some x→∀r,dL g (l++[x]++r)=none):=by
 have hc:(1≤g.size∧g.size≤2100)∧(∀x∈l,x.k=2)∧l.Pairwise tle:=by
  unfold dL at h
  split at h
  ·assumption
  ·cases h
 refine ⟨?_,fun h1=>?_,fun h1 r=>?_⟩
 ·exact if_pos ⟨rfl,hx,h8⟩
 ·have h2:=(Ct hc.2.2).1 h1
  refine ⟨h2,?_⟩
  have h3:∀y∈l++[x],y.k=2:=by
   intro y hy;rcases List.mem_append.1 hy with hy | hy
   ·exact hc.2.1 y hy
   ·rw [List.mem_singleton] at hy
    rw [hy];exact hx
  unfold dL;rw [if_pos ⟨hc.1,h3,(Cn hc.2.2).1 h2⟩]
 ·unfold dL
  rw [if_neg];rintro ⟨_,_,h2⟩;exact h1 ((Ct hc.2.2).2 (Qa (List.pairwise_append.1 h2).1))
theorem sU (g:ByteArray):dL g []=mR g:=by
 unfold dL mR
 by_cases h:1≤g.size∧g.size≤2100
 ·rw [if_pos h,if_pos ⟨h,by simp,List.Pairwise.nil⟩]
 ·rw [if_neg h,if_neg (fun h2=>h h2.1)]
theorem Dp {g:ByteArray} {l:List Tm} {x:Tm} (hx:x∈l) (h:x.k≠2):dL g l=none:=by
 unfold dL;rw [if_neg];rintro ⟨_,h2,_⟩;exact h (h2 x hx)
theorem BV {g:ByteArray} {l:List Tm} (h:mR g=none):dL g l=none:=by
 unfold dL;rw [if_neg];rintro ⟨h2,_⟩;unfold mR at h;rw [if_pos h2] at h;cases h
def bE (l:List UInt8):List UInt8:=l.dropWhile (· == 0)
def dP (l:List UInt8):List UInt8:=match l with
 | []=>[]
 | c :: r=>if 128≤c.toNat then 0 :: c :: r else c :: r
def fO (l:List UInt8):List UInt8:=q4 (dP (bE l)).length++dP (bE l)
def dI (l:List UInt8):Bool:=match l with
 | []=>false
 | c :: _=>c == 0
theorem gY {l:List UInt8} (h:dI l=false):bE l=l:=by
 cases l with
 | nil=>rfl
 | cons c r =>
  unfold bE;rw [List.dropWhile_cons_of_neg];simpa [dI] using h
theorem jw (l:List UInt8):(bE l).length≤l.length:=by
 have h:=congrArg List.length (List.takeWhile_append_dropWhile (p:=fun c:UInt8=>c == 0) (l:=l));rw [List.length_append] at h;unfold bE;omega
theorem mr (l:List UInt8):(dP l).length≤l.length+1:=by
 unfold dP
 split
 ·simp
 ·split <;> simp
structure RB where
 v0:ByteArray
 v1:ByteArray
 v2:ByteArray
 v3:ByteArray
 key:Option Tm
 e:Option Tm
 f:Option Tm
 k:Option Tm
 asks:Bool
 w0:Nat
 w1:Nat
 w2:Nat
 gp:ByteArray
 gg:ByteArray
theorem Bo {t u:Tm} (h:lim t=some u):u=t:=by
 unfold lim at h
 split at h
 ·cases h;rfl
 ·cases h
theorem Er {l:List (Option Tm)} {t:Tm} (h:kX l=some t):∃r,l=r.map some∧t=.mk 10 0 0 eB r:=by
 unfold kX at h
 split at h
 ·split at h
  ·rename_i r hr
   exact ⟨r,oh hr,Bo h⟩
  ·cases h
 ·cases h
def mO:ByteArray:=⟨#[50]⟩
def mF:ByteArray:=⟨#[112,117,98,108,105,99,107,101,121]⟩
def mJ:ByteArray:=⟨#[1]⟩
def Ou (s:Option Tm) (user service alg:ByteArray) (key:Option Tm):List (Option Tm):=[s,aO mO,aO user,aO service,aO mF,aO mJ,aO alg,key]
def RO (s:Option Tm) (user service alg:ByteArray) (key:Option Tm):Option Tm:=kX (Ou s user service alg key)
def kW (s:Option Tm) (user service alg:ByteArray) (who:Int):Option Tm:=mX alg (dW who) (RO s user service alg (gG (dW who)))
theorem Em {alg:ByteArray} {o p:Option Tm} {t:Tm} (h:mX alg o p=some t):∃k q,o=some k∧p=some q∧t=.mk 6 0 0 alg [k,q]:=by
 cases o with
 | none=>cases h
 | some k =>
  cases p with
  | none=>cases h
  | some q =>
   have h':(if (1≤alg.size∧alg.size≤64)∧k.k=3 then lim (.mk 6 0 0 alg [k,q]) else none)=some t:=h
   split at h'
   ·exact ⟨k,q,rfl,rfl,Bo h'⟩
   ·cases h'
theorem IR {who:Int} {t:Tm} (h:dW who=some t):0≤who∧t=.mk 3 who.toNat 0 eB []:=by
 unfold dW at h
 split at h
 ·rename_i h1
  have:=gM.1 h1;injection h with h;exact ⟨this.1,h.symm⟩
 ·cases h
theorem xk {s:Option Tm} {user service alg:ByteArray} {who:Int} {t:Tm} (h:kW s user service alg who=some t) :
  0≤who∧∃r,Ou s user service alg (gG (dW who))=r.map some∧t=.mk 6 0 0 alg [.mk 3 who.toNat 0 eB [],.mk 10 0 0 eB r]:=by
 obtain ⟨k,q,h1,h2,h3⟩:=Em h;obtain ⟨h0,rfl⟩:=IR h1;obtain ⟨r,h4,rfl⟩:=Er h2;exact ⟨h0,r,h4,h3⟩
end Go.Proofs.YtnhekaepgpbijaaGreatDoor
