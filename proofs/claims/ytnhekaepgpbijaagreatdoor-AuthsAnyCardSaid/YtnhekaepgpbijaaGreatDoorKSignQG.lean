/- Several of my texts in one: MakesD, Fault, Fr, Sign, RdrS, RdrB, RdrC, RdrD, SignR, DatA, Trans, TransL, SignQ. -/
import Derived.Test.YtnhekaepgpbijaaGreatDoorKAli
import Derived.Test.YtnhekaepgpbijaaGreatDoorKChnG
import Derived.Test.YtnhekaepgpbijaaGreatDoorKCardCG
import Derived.Test.YtnhekaepgpbijaaGreatDoorKAsG
import Derived.Test.YtnhekaepgpbijaaGreatDoorKCfDG
set_option linter.unusedVariables false
set_option linter.unusedSimpArgs false
set_option maxHeartbeats 40000000
set_option maxRecDepth 100000
namespace Go.Proofs.YtnhekaepgpbijaaGreatDoor
open Go.Proofs.Tryz Go.RowKit Go.ChangeShapes Go.WideShapes Go.Sort
variable {ns:List Int} {row:Option Nat}
def lg (T:List Tm) (ms:List (Option Tm)) (ns:List Int):Prop:=ns.length=ms.length/\∀(i:Nat) (o:Option Tm) (n:Int),ms[i]?=some o->ns[i]?=some n->Idn T o n
theorem Cx (T:List Tm):lg T [] []:=⟨rfl,fun i o n h=>by simp at h⟩
theorem lg.pre {T T':List Tm} {ms:List (Option Tm)} (h:lg T ms ns) (hp:T <+: T'):lg T' ms ns:=⟨h.1,fun i o n g j=>(h.2 i o n g j).pre hp⟩
theorem lg.snoc {T:List Tm} {ms:List (Option Tm)} {o:Option Tm} {n:Int} (h:lg T ms ns) (u:Idn T o n):lg T (ms++[o]) (ns++[n]):=by
 refine ⟨by simp [h.1],fun i A z g j=>?_⟩;rcases Nat.lt_or_ge i ms.length with p | r
 ·rw [Yn p] at g
  rw [Yn (by rw [h.1];exact p)] at j;exact h.2 i A z g j
 ·have q:=(Yx.1 g).1
  simp only [Ya,Yv,YL] at q;obtain rfl:i=ms.length:=Z0;rw [Ys (Y2 _),Nat.sub_self] at g;rw [<-h.1,Ys (Y2 _),Nat.sub_self] at j;simp only [Q1,Option.some.injEq] at g j;subst g j;exact u
theorem lg.args {T:List Tm} {ms:List (Option Tm)} (h:lg T ms ns):ns.map (arg T)=ms:=by
 refine List.ext_getElem? fun i=>?_
 rw [Yt]
 by_cases hi:i<ms.length
 ·have g:=Y1 hi
  have j:=Y1 (l:=ns) (i:=i) (by rw [h.1];exact hi);rw [g,j];show some _=_;rw [(h.2 i _ _ g j).1]
 ·rw [YJ (l:=ns) (by rw [h.1];omega),YJ Z0]
  rfl
theorem Ay:(prog.info? 39).map (fun i=>(i.zero,i.size,i.bytes))=some (some (.int .i64 0),1,8):=Z1
theorem Grown.outs {S S':Nat->Prop} {w w':World} (h:Grown S w S' w'):dD S w w':=⟨h.os,h.tape,h.output,h.size,h.block⟩
theorem Grown.keepNew {S g:Nat->Prop} {w j o:World} (h:Grown S w g j) (k:j.grownBy o row) (q:∀b,row=some b->w.heap.size<=b):Grown S w g o :=
 ⟨k.os.trans h.os,k.tape.trans h.tape,k.output.trans h.output,Yg h.size k.size,fun i hi p=>(k.block i (Yi hi h.size) (fun e=>by have:=q i e.symm;omega)).trans (h.block i hi p),h.sub,h.new⟩
theorem at_new {v v':Value} {S:Nat->Prop} {n:Nat} (h:v'.ownBlock=v.ownBlock\/v'.ownBlock=some n) (j:∀i,v.ownBlock=some i->¬ S i) (g:∀i,S i->i<n):∀i,v'.ownBlock=some i->¬ S i:=by
 intro i hi hs;rcases h with h | h
 ·exact j i (h.symm.trans hi) hs
 ·rw [h] at hi
  cases hi
  have:=g _ hs;omega
structure Kp (B:Nat) (w:World) (g:Nat) (T:List Tm) (S0 S:Nat->Prop) (W:World):Prop where
 ar:Ar B W g T S
 grown:Grown S0 w S W
theorem Kp.step {B g:Nat} {w p W:World} {T:List Tm} {j S:Nat->Prop} (h:Kp B w g T j S p) (k:p.grownBy W row) (o:∀b,row=some b->w.heap.size<=b/\¬ S b):Kp B w g T j S W :=
 ⟨h.ar.kept k fun b e=>(o b e).2,h.grown.keepNew k fun b e=>(o b e).1⟩
structure IdO (B0:Nat) (w:World) (T:List Tm) (ms:List (Option Tm)) (v:Value) (S:Nat->Prop):Prop where
 ids:∃ns,w.ownsRow B0 39 1 v ms.length (ns.map (Value.int .i64))/\lg T ms ns
 out:∀i,v.ownBlock=some i->¬ S i
section
variable {B0 : Nat} {w w' : World} {T T' : List Tm} {ms : List (Option Tm)} {v : Value} {S S' : Nat -> Prop}
theorem Af (B0:Nat) (w:World) (T:List Tm) (S:Nat->Prop):IdO B0 w T [] (.slice none 0 0) S :=
 ⟨⟨[],World.ownsRow_nil _ _ _ _,Cx _⟩,fun i hi=>by simp [Value.ownBlock] at hi⟩
theorem IdO.sl (h:IdO B0 w T ms v S):∃A c,v=.slice A ms.length c:=by
 obtain ⟨⟨ns,g,_⟩,_⟩:=h;exact iH g
theorem IdO.grown (h:IdO B0 w T ms v S) (p:Grown S w S' w') (hp:T <+: T'):IdO B0 w' T' ms v S':=by
 obtain ⟨⟨ns,g,q⟩,j⟩:=h;refine ⟨⟨ns,p.outs.own g j,q.pre hp⟩,fun i hi hs=>?_⟩;rcases p.new i hs with o | o
 ·exact j i hi o
 ·have:=(g.lt i hi).2
  omega
theorem IdO.below (h:IdO B0 w T ms v S) (g:Below w.heap.size w w'):IdO B0 w' T ms v S:=h.grown (Grown.of_below g) (Yl _)
theorem IdO.ids_ (h:IdO B0 w T ms v S):∃ns,Ids w v ns/\lg T ms ns:=by
 obtain ⟨⟨ns,j,g⟩,_⟩:=h;exact ⟨ns,AQ g.1.symm j,g⟩
end
end Go.Proofs.YtnhekaepgpbijaaGreatDoor
namespace Go.Proofs.YtnhekaepgpbijaaGreatDoor
open Go.Proofs.Tryz Go.RowKit
structure Flt (w:World) (b1 b2:Nat) (s1 s2:ByteArray) (k:Int):Prop where
 q1:Blk w b1 170 #[.string s1,.iface 168 (.pointer (some ⟨b2,0,none⟩))]
 q2:Blk w b2 170 #[.string s2,.iface 43 (.int .i64 k)]
theorem Flt.below {w w':World} {b1 b2:Nat} {s1 j:ByteArray} {k:Int} (h:Flt w b1 b2 s1 j k) (g:Below w.heap.size w w'):Flt w' b1 b2 s1 j k:=⟨h.q1.below g h.q1.lt,h.q2.below g h.q2.lt⟩
section
variable {w : World}
theorem rP (h g:ByteArray) (k:Int) (j:(k == 0)=false) (w:World):Calls prog 55 #[.string h,.string g,.int .i64 k] w (fun e w'=>∃b1 b2,e=.returned (.iface 168 (.pointer (some ⟨b1,0,none⟩)))/\Flt w' b1 b2 h g k/\Below w.heap.size w w'/\w.heap.size<=b1/\w.heap.size<=b2):=by
 go_enter func55,ntmps55;go_wp2;go_ret;exact ⟨_,_,rfl,⟨by simpa using Blk.new (w.alloc (.cells #[.string g,.iface 43 (.int .i64 k)] 170)) 170 #[.string h,.iface 168 (.pointer (some ⟨w.heap.size,0,none⟩))],(Blk.new w _ _).alloc _⟩,Z4,Z0,Y2 _⟩
end
end Go.Proofs.YtnhekaepgpbijaaGreatDoor
namespace Go.Proofs.YtnhekaepgpbijaaGreatDoor
open Go.Proofs.Tryz Go.RowKit Go.ChangeShapes Go.WideShapes Go.Sort
variable {t:TypeId} {cs:Array Value} {o:Option Tm} {e:Ending} {h:List Tm} {D c7 gb j m q z:Nat} {ms ns:List Int} {A A7:Option Addr} {n0 n1:Int} {alg service user:ByteArray} {p_:Prop} {os os2:List (Option Tm)} {r:World}
structure Fr (B g:Nat) (w:World) (T:List Tm) (S:Nat->Prop) (bs:List (Nat × TypeId × Array Value)) (W:World):Prop where
 bel:Below w.heap.size w W
 use:Use B W g T S
 wB:w.heap.size<=B
 blks:∀x∈bs,Blk W x.1 x.2.1 x.2.2/\¬ S x.1
section
variable {B g : Nat} {w W W' : World} {T T' : List Tm} {S S' : Nat -> Prop} {bs : List (Nat × TypeId × Array Value)}
theorem Grown.notin2 (h:Grown S W S' W') {b:Nat} (p:¬ S b) (q:b<W.heap.size):¬ S' b:=fun o=>by
 rcases h.new b o with j | j
 ·exact p j
 ·omega
theorem Fr.below (h:Fr B g w T S bs W) (j:Below W.heap.size W W'):Fr B g w T S bs W' :=
 ⟨h.bel.trans (j.mono h.bel.size),h.use.below j,h.wB,fun x o=>⟨(h.blks x o).1.below j (h.blks x o).1.lt,(h.blks x o).2⟩⟩
theorem Fr.grown (h:Fr B g w T S bs W) (j:Grown S W S' W') (p:Ar B W' g T' S') (q:T'.length<=1000000000):Fr B g w T' S' bs W' :=
 ⟨h.bel.trans ((j.below h.use.base h.use.ar.sB).mono h.wB),h.use.grown j p q,h.wB,fun x o=>⟨j.outs.blk (h.blks x o).1 (h.blks x o).2,j.notin2 (h.blks x o).2 (h.blks x o).1.lt⟩⟩
theorem Fr.new (h:Fr B g w T S bs W) (t:TypeId) (cs:Array Value):Fr B g w T S ((W.heap.size,t,cs) :: bs) (W.alloc (.cells cs t)):=by
 have j:=h.below (bz (.cells cs t));refine ⟨j.bel,j.use,j.wB,fun x o=>?_⟩;rcases Yz.1 o with rfl | o
 ·exact ⟨Blk.new _ _ _,fun p=>by have:=h.use.ar.sL _ p;simp at this⟩
 ·exact j.blks x o
theorem Fr.drop (h:Fr B g w T S bs W) {bs':List (Nat × TypeId × Array Value)} (hs:∀x∈bs',x∈bs):Fr B g w T S bs' W:=⟨h.bel,h.use,h.wB,fun x j=>h.blks x (hs x j)⟩
theorem Fr.blk {b:Nat} (h:Fr B g w T S bs W) (j:(b,t,cs)∈bs):Blk W b t cs:=(h.blks _ j).1
end
def VQ (B:Nat) (w:World) (g:Nat) (T:List Tm) (S:Nat->Prop) (o:Option Tm) (m:Nat) (e:Ending) (w':World):Prop :=
 ∃T' n S',e=.returned (.int .i64 n)/\Idn T' o n/\T <+: T'/\T'.length<=T.length+m/\Ar B w' g T' S'/\Grown S w S' w'
section
variable {B g : Nat} {w : World} {T : List Tm} {S : Nat -> Prop}
theorem Done.s {w':World} (h:Done B w g T S o e w'):VQ B w g T S o 1 e w':=by
 obtain ⟨p,n,j,rfl,hp,q,r⟩:=h;exact ⟨p,n,j,rfl,hp.idn,hp.pre,hp.len,q,r⟩
end
def J4:ByteArray:=⟨#[107,101,121]⟩
def JZ:ByteArray:=⟨#[115,105,103,110,97,116,117,114,101]⟩
def SR (b:Nat) (S:Nat->Prop) (i:Nat):Prop:=S i\/i=b
structure Rd (B b g:Nat) (s:ByteArray) (p:Nat) (T:List Tm) (S:Nat->Prop) (W:World):Prop where
 use:Use B W g T S
 bk:Bk W b g s p
 nb:¬ S b
 bB:B<=b
 hp:p<=s.size
 hs:s.size<=131072
 few:T.length+2*(s.size - p)<=900000000
section
variable {B b g p p' : Nat} {s : ByteArray} {T T' : List Tm} {S S' : Nat -> Prop} {w w' : World}
theorem Grown.sr (h:Grown S w S' w') (b:Nat):Grown (SR b S) w (SR b S') w' :=
 ⟨h.os,h.tape,h.output,h.size,fun i hi o=>h.block i hi (fun j=>o (.inl j)),fun i hi=>hi.imp (h.sub i) id,fun i hi=>by
  rcases hi with hi | hi
  ·exact (h.new i hi).imp .inl id
  ·exact .inl (.inr hi)⟩
theorem iB (h:w.grownBy w' (some b)):Grown (SR b S) w (SR b S) w' :=
 ⟨h.os,h.tape,h.output,h.size,fun i hi j=>h.block i hi (fun e=>j (.inr (Y9 e))),fun _ h=>h,fun _ h=>.inl h⟩
theorem Rd.sr_lt (h:Rd B b g s p T S w):∀i,SR b S i->i<w.heap.size:=fun i hi=>by
 rcases hi with hi | hi
 ·exact h.use.ar.sL i hi
 ·rw [hi];exact Blk.lt h.bk
theorem Rd.below (h:Rd B b g s p T S w) (j:Below w.heap.size w w'):Rd B b g s p T S w' :=
 ⟨h.use.below j,Blk.below h.bk j (Blk.lt h.bk),h.nb,h.bB,h.hp,h.hs,h.few⟩
theorem Rd.grown (h:Rd B b g s p T S w) (j:Grown S w S' w') (r:Ar B w' g T' S') (u:T'.length+2*(s.size - p)<=900000000):Rd B b g s p T' S' w' :=
 ⟨h.use.grown j r Z0,j.outs.blk h.bk h.nb,fun q=>by
  rcases j.new b q with o | o
  ·exact h.nb o
  ·have:=Blk.lt h.bk;omega,h.bB,h.hp,h.hs,u⟩
theorem Rd.by_ (h:Rd B b g s p T S w) (j:Bk w' b g s p') (o:w.grownBy w' (some b)) (hp:p'<=s.size) (q:p<=p'):Rd B b g s p' T S w' :=
 ⟨h.use.kept o (fun i e=>by cases e;exact ⟨h.nb,h.bB⟩),j,h.nb,h.bB,hp,h.hs,by have:=h.few;omega⟩
theorem Rd.keep {row:Option Nat} (h:Rd B b g s p T S w) (k:w.grownBy w' row) (j:∀i,row=some i->¬ SR b S i/\B<=i):Rd B b g s p T S w' :=
 ⟨h.use.kept k (fun i e=>⟨fun o=>(j i e).1 (.inl o),(j i e).2⟩),Blk.grown h.bk k (fun e=>(j b e.symm).1 (.inr rfl)),h.nb,h.bB,h.hp,h.hs,h.few⟩
theorem Rd.len (h:Rd B b g s p T S w):(s.data.toList.drop p).length=s.size - p:=by rw [Yu,aC]
end
def Got (B b g:Nat) (s:ByteArray) (p0 p:Nat) (T:List Tm) (S:Nat->Prop) (w:World) (e:Ending) (w':World):Prop :=
 ∃T' n S' p' o,e=.returned (.int .i64 n)/\Idn T' o n/\uu s p0 o p'/\Rd B b g s p' T' S' w'/\Grown (SR b S) w (SR b S') w'/\T <+: T'/\T'.length<=T.length+2*(p' - p)+1/\p<=p'
def qb (B b g:Nat) (s:ByteArray) (p:Nat) (T:List Tm) (S:Nat->Prop) (w:World) (e:Ending) (w':World):Prop :=
 ∃T' n S' p' o,e=.returned (.int .i64 n)/\Idn T' o n/\uu s p o p'/\Rd B b g s p' T' S' w'/\Grown (SR b S) w (SR b S') w'/\T <+: T'/\T'.length<=T.length+2*(p' - p)/\p<=p'
def Dw (B b g:Nat) (s:ByteArray) (p n:Nat) (T:List Tm) (S:Nat->Prop) (w:World) (e:Ending) (w':World):Prop :=
 (∃T' S' p',e=.returned (.tuple #[.slice none 0 0,.bool false])/\D8 n (s.data.toList.drop p)/\Rd B b g s p' T' S' w'/\Grown (SR b S) w (SR b S') w'/\T <+: T'/\T'.length<=T.length+2*(p' - p)/\p<=p') \/
 (∃T' S' p' l A c,e=.returned (.tuple #[.slice A n c,.bool true])/\eH l/\l.length=n/\s.data.toList.drop p=encs l++s.data.toList.drop p'/\IdO w.heap.size w' T' (l.map some) (.slice A n c) (SR b S')/\Rd B b g s p' T' S' w'/\Grown (SR b S) w (SR b S') w'/\T <+: T'/\T'.length<=T.length+2*(p' - p)/\p<=p')
structure Vh (B b g:Nat) (s:ByteArray) (p i:Nat) (T:List Tm) (S:Nat->Prop) (w:World) (T':List Tm) (S':Nat->Prop) (p':Nat) (l:List Tm) (v:Value) (wr:World):Prop where
 rd:Rd B b g s p' T' S' wr
 grown:Grown (SR b S) w (SR b S') wr
 pre:T <+: T'
 few:T'.length<=T.length+2*(p' - p)
 le:p<=p'
 gds:eH l
 len:l.length=i
 eq:s.data.toList.drop p=encs l++s.data.toList.drop p'
 ids:IdO w.heap.size wr T' (l.map some) v (SR b S')
section
variable {B b g p p' i : Nat} {s : ByteArray} {T T' T2 : List Tm} {S S' S2 : Nat -> Prop} {w wr wx : World} {l : List Tm} {v : Value}
theorem Mc (h:Rd B b g s p T S w):Vh B b g s p 0 T S w T S p [] (.slice none 0 0) w :=
 ⟨h,Grown.refl _ _,Yl _,Z0,Y2 _,trivial,rfl,by simp [encs],Af _ _ _ _⟩
end
section
variable {B b g p p0 n : Nat} {s : ByteArray} {T : List Tm} {S : Nat -> Prop} {w w1 w2 : World} {k a b' : Nat} {s' : ByteArray} {c : UInt8} {s1 : List UInt8}
theorem qA (r:s.data.toList.drop p0=c :: s1) (D:c.toNat=240+k) (z:Hed k a b' s' n s1 (s.data.toList.drop p)) {o:Nat->Prop} (A:D8 n (s.data.toList.drop p)) (C:Rd B b g s j h o w1) (u:Grown (SR b S) w (SR b o) w1) (hp:T <+: h)
  (F:h.length<=T.length+2*(j - p)) (q:p<=j):Got B b g s p0 p T S w (.returned (.int .i64 (-1))) w1 :=
 ⟨h,-1,o,j,none,rfl,dB _,si r D z A,C,u,hp,Z0,q⟩
theorem oD (C:s.data.toList.drop p0=c :: s1) (J:c.toNat=240+k) (L:k<=10) (I:Hed k a b' s' n s1 (s.data.toList.drop p)) {q:List Tm} {u:Nat->Prop} {l:List Tm} (K:eH l) (N:l.length=n) (he:s.data.toList.drop p=encs l++s.data.toList.drop j)
  (r:Rd B b g s j q u w1) (G:Grown (SR b S) w (SR b u) w1) (hp:T <+: q) (X:q.length<=T.length+2*(j - p)) (A:p<=j) (O:jl k a b' s' l o) (F:Done B w1 g q u o e w2) (P:p0<p) (V:T.length+2*(s.size - p0)<=900000000):Got B b g s p0 p T S w e w2:=by
 obtain ⟨T2,m,S2,rfl,z,D,h⟩:=F;have Q:=z.len;have R:=r.few;have U:=r.hp;exact ⟨T2,m,S2,j,o,rfl,z.idn,lY r.hs C J L I K N he O,r.grown h D Z0,G.trans (h.sr b),hp.trans z.pre,Z0,A⟩
end
def fe (B b g:Nat) (s:ByteArray) (N:Nat):Prop :=
 ∀(p:Nat) (T:List Tm) (S:Nat->Prop) (w:World),s.size - p<N->Rd B b g s p T S w->Calls prog 96 #[.pointer (some ⟨b,0,none⟩)] w (qb B b g s p T S w)
section
variable {B b g p N : Nat} {s : ByteArray} {T : List Tm} {S : Nat -> Prop} {w : World}
theorem Oc {s:ByteArray} {p:Nat} (h:uu s p none j):NoT (s.data.toList.drop p):=by
 rcases h with h | ⟨t,h,_⟩
 ·exact h.2
 ·cases h
theorem LJ {s:ByteArray} {p:Nat} {t:Tm} (h:uu s p (some t) j):good t/\s.data.toList.drop p=enc t++s.data.toList.drop j:=by
 rcases h with h | ⟨q,h,o⟩
 ·cases h.1
 ·cases h
  exact o
theorem lN (IH:fe B b g s N) (h:Rd B b g s p T S w) (hN:s.size - p<N) (n:Nat) (hn:n<=1000) :
    Calls prog 242 #[.pointer (some ⟨b,0,none⟩),.int .i64 n] w (Dw B b g s p n T S w):=by
  have R:=hide (Mc h);have HB:=hide h.use.base;have U:=hide IH;clear h IH;go_enter func242,ntmps242;go_wp2_with fail
  go_loopw [9,6] (fun vi v wr=>∃(i:Nat) (P:List Tm) (O:Nat->Prop) (Q:Nat) (l:List Tm),vi=.int .i64 i/\i<=n/\Vh B b g s p i T S w P O Q l v wr) (fun vi _ _=>n - (intOf vi).toNat)
  case atStart=>exact ⟨0,T,S,p,[],rfl,Yb _,R.out⟩
  case round =>
    obtain ⟨i,P,O,Q,l,rfl,hi,q⟩:=hrel;have L:=hide q;obtain ⟨A1,c1,hv⟩:=q.ids.sl;have J:(l.map some).length=i:=by rw [Yd,q.len]
    rw [J] at hv;subst hv;have aq:=q.grown.size
    by_cases ac:i<n
    · have ab:(i:Int)<n:=by omega
      have HT:=hide (U.out Q P O wr (by have:=q.le;omega) q.rd);obtain ⟨iI,aa,V,X,Y⟩:=info_parts Ay;clear q
      go_wp2_with (first
        | (go_at_call 96;refine HT.out.mono ?_;rintro e wx ⟨T2,m,S2,p2,o,rfl,F,u,D,z,r,an,ap⟩;
           have Z:=L.out.ids.grown z r;obtain ⟨ns,A,I⟩:=Z.ids;rw [J] at A;have ao:=z.size)
        | (at_builtin;refine aB _ rfl (.tmp 15) (.tmp 17) _ rfl w.heap.size 39 iI (.int .i64 0) 1 8 underlying124 aa V X Y rfl Z2 _ _ _ rfl (A.alloc _) _ (some ⟨_,0,none⟩) 1 1 [.int .i64 m] rfl (eD (Blk.new _ _ _) rfl) Zd Ze Z0 (by simp;omega) ?_;intro v6 w6 G C K)
        | fail)
      · rename_i hm
        obtain rfl:m=-1:=by simpa using hm
        obtain rfl:=F.none_iff.1 rfl;have q:=L.out;go_ret2;exact .inl ⟨T2,S2,p2,rfl,yX q.gds q.len ac q.eq (Oc u),D,q.grown.trans z,q.pre.trans r,by have:=q.few;have:=q.le;omega,by have:=q.le;omega⟩
      · have q:=L.out
        obtain ⟨t,rfl⟩:∃t,o=some t:=by
          cases o with
          | some t=>exact ⟨t,rfl⟩
          | none =>
            exfalso;have:=F.2 rfl;simp_all
        obtain ⟨af,am⟩:=LJ u;have k1:=dK (az wx none) (.cells #[.int .i64 m] 39);have r1:=D.keep k1 (fun i e=>Xv);have r2:=r1.keep C (fun j e=>⟨Z.out j e,Yg HB.out (A.lt j e).1⟩);have g1:=((q.grown.trans z).keepNew k1 (fun i e=>Xv)).keepNew C (fun j e=>(A.lt j e).1);have ad:=D.sr_lt;refine ⟨⟨i+1,T2,S2,p2,l++[t],Zr,Z0,r2,g1,q.pre.trans r,by have:=q.few;have:=q.le;omega,by have:=q.le;omega,wT q.gds af,by simp [q.len],?_,⟨ns++[m],?_,?_⟩,?_⟩,Zh⟩
        · rw [q.eq,am,iQ]
          simp [encs]
        · simpa [q.len] using G
        · simpa using I.snoc F
        · exact at_new K Z.out (fun i hi=>by have:=ad i hi;simp;omega)
    · obtain rfl:i=n:=by omega
      have ab:¬ (i:Int)<i:=Z0;go_wp2;go_ret2;have q:=L.out;exact .inr ⟨P,O,Q,l,A1,c1,rfl,q.gds,q.len,q.eq,q.ids,q.rd,q.grown,q.pre,q.few,q.le⟩
end
section
variable {B b g p N : Nat} {s : ByteArray} {T : List Tm} {S : Nat -> Prop} {w w1 : World}
theorem IdO.base {B1:Nat} {ms:List (Option Tm)} {v:Value} (h:IdO j w T ms v S) (u:B1<=j):IdO B1 w T ms v S:=by
 obtain ⟨⟨ns,o,q⟩,r⟩:=h;exact ⟨⟨ns,iZ o u,q⟩,r⟩
theorem Dw.from_ {n:Nat} {w':World} (h:Dw B b g s p n T S w1 e w') (C:Grown (SR b S) w (SR b S) w1):Dw B b g s p n T S w e w':=by
 rcases h with ⟨o,j,D,q,r,u,v,z⟩ | ⟨o,j,D,l,A,c,q,r,u,v,z,F,G,h8⟩
 ·exact .inl ⟨o,j,D,q,r,u,C.trans v,z⟩
 ·exact .inr ⟨o,j,D,l,A,c,q,r,u,v,z.base C.size,F,C.trans G,h8⟩
def N9 (B b g:Nat) (s:ByteArray) (p:Nat) (T:List Tm) (S:Nat->Prop) (w:World) (e:Ending) (w':World):Prop :=
 ∃p',e=.returned (.tuple #[.slice none 0 0,.bool false])/\Rd B b g s p' T S w'/\Grown (SR b S) w (SR b S) w'/\p<=p'
theorem uy (h:Rd B b g s p T S w) (o:Int) (u:s.size<p+4):Calls prog 178 #[.pointer (some ⟨b,0,none⟩),.int .i64 o] w (N9 B b g s p T S w):=by
 have r:=hide (AB h.bk (by have:=h.hs;omega) h.hp u);have H:=hide h;clear h;go_enter func178,ntmps178;go_wp2_with (go_at_call 175;refine r.out.mono ?_;rintro e w1 ⟨rfl,q,j⟩);go_ret2;exact ⟨p,rfl,H.out.by_ q j H.out.hp (Y2 _),iB j,Y2 _⟩
theorem uk (h:Rd B b g s p T S w) (j:Int) (u:p+4<=s.size) {n:Nat} (v:n=n4 (s.data.toList.drop p)) (z:j<(n:Int)):Calls prog 178 #[.pointer (some ⟨b,0,none⟩),.int .i64 j] w (N9 B b g s p T S w):=by
 have r:=hide (nT h.bk (by have:=h.hs;omega) u);rw [<-v] at r;have H:=hide h;clear h v;go_enter func178,ntmps178;go_wp2_with (go_at_call 175;refine r.out.mono ?_;rintro e w1 ⟨rfl,q,o⟩);go_ret2;exact ⟨p+4,rfl,H.out.by_ q o u Z0,iB o,Z0⟩
theorem ul (J:fe B b g s N) (h:Rd B b g s p T S w) (Q:s.size - p<=N) (j:Int) (K:p+4<=s.size) {n:Nat} (L:n=n4 (s.data.toList.drop p)) (R:(n:Int)<=j) (G:n<=1000):Calls prog 178 #[.pointer (some ⟨b,0,none⟩),.int .i64 j] w (Dw B b g s (p+4) n T S w):=by
 have o:=hide (nT h.bk (by have:=h.hs;omega) K);rw [<-L] at o;have H:=hide h;have r:=hide J;have P:¬ (j<(n:Int)):=Z0;clear h L J;go_enter func178,ntmps178
 go_wp2_with (first
  | (go_at_call 175;refine o.out.mono ?_;rintro e w1 ⟨rfl,C,q⟩;have D:=H.out.by_ C q K Z0;have O:=hide (lN r.out D Z0 n G))
  | fail)
 refine O.out.mono ?_;rintro e w2 F;have F:=F.from_ (iB q);rcases F with ⟨v,u,I,rfl,z⟩ | ⟨v,u,I,l,A,c,rfl,z⟩
 ·go_wp2_with fail
  go_ret2;exact .inl ⟨v,u,I,rfl,z⟩
 ·go_wp2_with fail
  go_ret2;exact .inr ⟨v,u,I,l,A,c,rfl,z⟩
theorem j4 {n:Nat} {c:Nat} {l:List Tm} (h:IdO D w T (l.map some) (.slice A n c) S) (hn:l.length=n) (F:0<n):∃gb,A=some ⟨gb,0,none⟩/\gb<w.heap.size/\∀(k:Nat) (t:Tm),l[k]?=some t->∃m:Int,w.cell? ⟨gb,k,none⟩=some (.int .i64 m)/\Idn T (some t) m:=by
 obtain ⟨⟨ns,o,u⟩,J⟩:=h;have I:(l.map some).length=n:=XN;rw [I] at o;obtain ⟨gb,cap,C,_,r⟩:=o.form F;have G:A=some ⟨gb,0,none⟩:=by injection C
 refine ⟨gb,G,r,fun k t z=>?_⟩;have q:=(Yx.1 z).1;have j:k<ns.length:=by rw [u.1];simpa using q
 have v:=o.cells (g:=gb) (by rw [C];rfl) k (.int .i64 ns[k]) (by rw [Yt,Y1 j];rfl);rw [cu] at v;exact ⟨ns[k],v,u.2 k (some t) _ (by rw [Yt,z];rfl) (Y1 j)⟩
theorem nA {n:Int} {t:Tm} (h:Idn T (some t) n):arg T n=some t:=h.1

theorem Qp (h:Use B w g T S) (o:Bk w b g s p) {c:Nat} (v:Blk w j 176 #[.pointer (some ⟨b,0,none⟩)]) (c0:w.cell? ⟨gb,0,none⟩=some (.int .i64 n0)) (G:¬ S j) (nb:¬ S b) (F:¬ S gb) :
  Calls prog 168 #[.slice (some ⟨gb,0,none⟩) 1 c,.pointer (some ⟨j,0,none⟩)] w (Done B w g T S (pI (arg T n0))):=by
 have z:=hide (fun (W:World) (hb:Below w.heap.size w W)=>Cz (h.below hb) n0);have u:w.cell? ⟨j,0,none⟩=some (.pointer (some ⟨b,0,none⟩)):=v.cell 0;have r:w.cell? ⟨b,0,none⟩=some (.pointer (some ⟨g,0,none⟩)):=Blk.cell o 0;clear h o v;go_enter func168,ntmps168;go_upto_region 1 with fail
 go_region_held3 (fun W=>W.cell? ⟨j,0,none⟩=some (.pointer (some ⟨b,0,none⟩))/\W.cell? ⟨b,0,none⟩=some (.pointer (some ⟨g,0,none⟩))/\W.cell? ⟨gb,0,none⟩=some (.int .i64 n0))
  (exact ⟨u,r,c0⟩)
  (first
   | (go_at_call 14;refine (z.out _ Z4).mono ?_;rintro e w' ⟨C,n,A,rfl,hp,D,q⟩;replace u:=q.outs.cell u G;replace r:=q.outs.cell r nb;replace c0:=q.outs.cell c0 F)
   | fail)
 all_goals go_wp2_with fail
 all_goals go_ret
 all_goals exact ⟨C,n,A,rfl,hp,D,(Grown.of_below Z4).trans q⟩
theorem RH (h:Use B w g T S) (o:Bk w b g s p) {c:Nat} (v:Blk w j 176 #[.pointer (some ⟨b,0,none⟩)]) (c0:w.cell? ⟨gb,0,none⟩=some (.int .i64 n0)) (G:¬ S j) (nb:¬ S b) (F:¬ S gb) :
  Calls prog 169 #[.slice (some ⟨gb,0,none⟩) 1 c,.pointer (some ⟨j,0,none⟩)] w (Done B w g T S (mi (arg T n0))):=by
 have z:=hide (fun (W:World) (hb:Below w.heap.size w W)=>yF (h.below hb) n0);have u:w.cell? ⟨j,0,none⟩=some (.pointer (some ⟨b,0,none⟩)):=v.cell 0;have r:w.cell? ⟨b,0,none⟩=some (.pointer (some ⟨g,0,none⟩)):=Blk.cell o 0;clear h o v;go_enter func169,ntmps169;go_upto_region 1 with fail
 go_region_held3 (fun W=>W.cell? ⟨j,0,none⟩=some (.pointer (some ⟨b,0,none⟩))/\W.cell? ⟨b,0,none⟩=some (.pointer (some ⟨g,0,none⟩))/\W.cell? ⟨gb,0,none⟩=some (.int .i64 n0))
  (exact ⟨u,r,c0⟩)
  (first
   | (go_at_call 39;refine (z.out _ Z4).mono ?_;rintro e w' ⟨C,n,A,rfl,hp,D,q⟩;replace u:=q.outs.cell u G;replace r:=q.outs.cell r nb;replace c0:=q.outs.cell c0 F)
   | fail)
 all_goals go_wp2_with fail
 all_goals go_ret
 all_goals exact ⟨C,n,A,rfl,hp,D,(Grown.of_below Z4).trans q⟩
theorem Ra (h:Use B w g T S) (q:Bk w b g s p) {o c by_:Nat} (z:Blk w o 176 #[.pointer (some ⟨b,0,none⟩)]) (J:alg.size<=1000000) (A:Blk w by_ 9 #[.string alg]) (c0:w.cell? ⟨gb,0,none⟩=some (.int .i64 n0)) (c1:w.cell? ⟨gb,1,none⟩=some (.int .i64 n1)) (K:¬ S o) (nb:¬ S b) (C:¬ S gb) (L:¬ S by_) :
  Calls prog 172 #[.slice (some ⟨gb,0,none⟩) 2 c,.pointer (some ⟨o,0,none⟩),.pointer (some ⟨by_,0,none⟩)] w (Done B w g T S (jR alg (arg T n0) (arg T n1))):=by
 have D:=hide (fun (W:World) (hb:Below w.heap.size w W)=>yA (h.below hb) (s:=alg) Z0 n0 n1);have u:w.cell? ⟨o,0,none⟩=some (.pointer (some ⟨b,0,none⟩)):=z.cell 0;have r:w.cell? ⟨b,0,none⟩=some (.pointer (some ⟨g,0,none⟩)):=Blk.cell q 0;have v:w.cell? ⟨by_,0,none⟩=some (.string alg):=A.cell 0;clear h q z A;go_enter func172,ntmps172;go_upto_region 1 with fail
 go_region_held3 (fun W=>W.cell? ⟨o,0,none⟩=some (.pointer (some ⟨b,0,none⟩))/\W.cell? ⟨b,0,none⟩=some (.pointer (some ⟨g,0,none⟩))/\W.cell? ⟨gb,0,none⟩=some (.int .i64 n0)/\W.cell? ⟨gb,1,none⟩=some (.int .i64 n1)/\W.cell? ⟨by_,0,none⟩=some (.string alg))
  (exact ⟨u,r,c0,c1,v⟩)
  (first
   | (go_at_call 102;refine (D.out _ Z4).mono ?_;rintro e w' ⟨G,n,F,rfl,hp,I,j⟩;replace u:=j.outs.cell u K;replace r:=j.outs.cell r nb;replace c0:=j.outs.cell c0 C;replace c1:=j.outs.cell c1 C;replace v:=j.outs.cell v L)
   | fail)
 all_goals go_wp2_with fail
 all_goals go_ret
 all_goals exact ⟨G,n,F,rfl,hp,I,(Grown.of_below Z4).trans j⟩
theorem QW (h:Use B w g T S) (r:Bk w b g s p) {o c by_:Nat} (C:Blk w o 176 #[.pointer (some ⟨b,0,none⟩)]) (K:q<256) (D:Blk w by_ 5 #[.int .u8 (q:Nat)]) {n2:Int} (c0:w.cell? ⟨gb,0,none⟩=some (.int .i64 n0)) (c1:w.cell? ⟨gb,1,none⟩=some (.int .i64 n1)) (c2:w.cell? ⟨gb,2,none⟩=some (.int .i64 n2)) (L:¬ S o) (nb:¬ S b) (v:¬ S gb) (O:¬ S by_) :
  Calls prog 173 #[.slice (some ⟨gb,0,none⟩) 3 c,.pointer (some ⟨o,0,none⟩),.pointer (some ⟨by_,0,none⟩)] w (Done B w g T S (qK q (arg T n0) (arg T n1) (arg T n2))):=by
 have F:=hide (fun (W:World) (hb:Below w.heap.size w W)=>DC (h.below hb) q K n0 n1 n2);have z:w.cell? ⟨o,0,none⟩=some (.pointer (some ⟨b,0,none⟩)):=C.cell 0;have u:w.cell? ⟨b,0,none⟩=some (.pointer (some ⟨g,0,none⟩)):=Blk.cell r 0;have A:w.cell? ⟨by_,0,none⟩=some (.int .u8 (q:Nat)):=D.cell 0;clear h r C D;go_enter func173,ntmps173;go_upto_region 1 with fail
 go_region_held3 (fun W=>W.cell? ⟨o,0,none⟩=some (.pointer (some ⟨b,0,none⟩))/\W.cell? ⟨b,0,none⟩=some (.pointer (some ⟨g,0,none⟩))/\W.cell? ⟨gb,0,none⟩=some (.int .i64 n0)/\W.cell? ⟨gb,1,none⟩=some (.int .i64 n1)/\W.cell? ⟨gb,2,none⟩=some (.int .i64 n2)/\W.cell? ⟨by_,0,none⟩=some (.int .u8 (q:Nat)))
  (exact ⟨z,u,c0,c1,c2,A⟩)
  (first
   | (go_at_call 174;refine (F.out _ Z4).mono ?_;rintro e w' ⟨I,n,G,rfl,hp,J,j⟩;replace z:=j.outs.cell z L;replace u:=j.outs.cell u nb;replace c0:=j.outs.cell c0 v;replace c1:=j.outs.cell c1 v;replace c2:=j.outs.cell c2 v;replace A:=j.outs.cell A O)
   | fail)
 all_goals go_wp2_with fail
 all_goals go_ret
 all_goals exact ⟨I,n,G,rfl,hp,J,(Grown.of_below Z4).trans j⟩
theorem Qk (h:Use B w g T S) (r:Bk w b g s p) {o c by_:Nat} (A:Blk w o 176 #[.pointer (some ⟨b,0,none⟩)]) (K:q<4294967296) (C:Blk w by_ 3 #[.int .i64 (q:Nat)]) (c0:w.cell? ⟨gb,0,none⟩=some (.int .i64 n0)) (c1:w.cell? ⟨gb,1,none⟩=some (.int .i64 n1)) (L:¬ S o) (nb:¬ S b) (D:¬ S gb) (O:¬ S by_) :
  Calls prog 176 #[.slice (some ⟨gb,0,none⟩) 2 c,.pointer (some ⟨o,0,none⟩),.pointer (some ⟨by_,0,none⟩)] w (Done B w g T S (Dv q (arg T n0) (arg T n1))):=by
 have F:=hide (fun (W:World) (hb:Below w.heap.size w W)=>JF (h.below hb) q K n0 n1);have v:w.cell? ⟨o,0,none⟩=some (.pointer (some ⟨b,0,none⟩)):=A.cell 0;have u:w.cell? ⟨b,0,none⟩=some (.pointer (some ⟨g,0,none⟩)):=Blk.cell r 0;have z:w.cell? ⟨by_,0,none⟩=some (.int .i64 (q:Nat)):=C.cell 0;have P:IntKind.u32.wrap (q:Int)=(q:Int):=by rw [IntKind.wrap_u32];omega
 clear h r A C;go_enter func176,ntmps176;go_upto_region 1 with fail
 go_region_held3 (fun W=>W.cell? ⟨o,0,none⟩=some (.pointer (some ⟨b,0,none⟩))/\W.cell? ⟨b,0,none⟩=some (.pointer (some ⟨g,0,none⟩))/\W.cell? ⟨gb,0,none⟩=some (.int .i64 n0)/\W.cell? ⟨gb,1,none⟩=some (.int .i64 n1)/\W.cell? ⟨by_,0,none⟩=some (.int .i64 (q:Nat)))
  (exact ⟨v,u,c0,c1,z⟩)
  (first
   | (go_at_call 177;refine (F.out _ Z4).mono ?_;rintro e w' ⟨I,n,G,rfl,hp,J,j⟩;replace v:=j.outs.cell v L;replace u:=j.outs.cell u nb;replace c0:=j.outs.cell c0 D;replace c1:=j.outs.cell c1 D;replace z:=j.outs.cell z O)
   | fail)
 all_goals go_wp2_with fail
 all_goals go_ret
 all_goals exact ⟨I,n,G,rfl,hp,J,(Grown.of_below Z4).trans j⟩
theorem zzde2 (h_:p_:=by
 obtain ⟨T2,m,S2,rfl,hD2⟩:=hD;go_wp2_with fail;go_ret
 exact hF.out):p_:=h_
theorem Jw (O:fe B b g s N) (h:Rd B b g s p T S w) (hN:s.size - p<N) {p0:Nat} (X:Blk w z 176 #[.pointer (some ⟨b,0,none⟩)]) (v:¬ SR b S z) {c:UInt8} {s1:List UInt8}
  (P:s.data.toList.drop p0=c :: s1) (U:c.toNat=240+4) (Q:Hed 4 0 0 eB 1 s1 (s.data.toList.drop p)) (F:p0<p) (hK:T.length+2*(s.size - p0)<=900000000) :
  Calls prog 167 #[.pointer (some ⟨b,0,none⟩),.int .i64 1,.func (.func 168) #[] #[.pointer (some ⟨z,0,none⟩)]] w (Got B b g s p0 p T S w):=by
 have Y:=hide (lN O h hN 1 Z0);have H:=hide h;have L:=hide X;have K:=hide U;have J:=hide Q;have G:=hide P;clear h O X U Q P;go_enter func167,ntmps167;go_wp2_with fail;refine Y.out.mono ?_;rintro e w1 (⟨T1,S1,p1,rfl,C,r,u,j,D,q⟩ | ⟨T1,S1,p1,l,A,cz,rfl,hg,V,he,R,r,u,j,D,q⟩)
 ·go_wp2_with fail
  go_ret;exact qA G.out K.out J.out C r u j D q
 ·obtain ⟨gb,rfl,aa,o⟩:=j4 R V Z0
  match l,V with
  | [t0],_ =>
   obtain ⟨n0,c0,i0⟩:=o 0 t0 rfl;have a0:=nA i0;have NX:=u.notin2 v L.out.lt;have Z:=R.out gb rfl;have I:=hide (Qp r.use r.bk (u.outs.blk L.out v) (c:=cz) c0 (fun h9=>NX (.inl h9)) r.nb (fun h9=>Z (.inl h9)));rw [a0] at I;go_wp2_with fail;refine I.out.mono ?_;rintro e w2 hD;have hF:=hide (oD (w:=w) G.out K.out Z0 J.out hg rfl he r u j D q (F3 t0) hD F hK);exact zzde2
theorem JL (O:fe B b g s N) (h:Rd B b g s p T S w) (hN:s.size - p<N) {p0:Nat} (X:Blk w z 176 #[.pointer (some ⟨b,0,none⟩)]) (v:¬ SR b S z) {c:UInt8} {s1:List UInt8}
  (P:s.data.toList.drop p0=c :: s1) (U:c.toNat=240+7) (Q:Hed 7 0 0 eB 1 s1 (s.data.toList.drop p)) (F:p0<p) (hK:T.length+2*(s.size - p0)<=900000000) :
  Calls prog 167 #[.pointer (some ⟨b,0,none⟩),.int .i64 1,.func (.func 169) #[] #[.pointer (some ⟨z,0,none⟩)]] w (Got B b g s p0 p T S w):=by
 have Y:=hide (lN O h hN 1 Z0);have H:=hide h;have L:=hide X;have K:=hide U;have J:=hide Q;have G:=hide P;clear h O X U Q P;go_enter func167,ntmps167;go_wp2_with fail;refine Y.out.mono ?_;rintro e w1 (⟨T1,S1,p1,rfl,C,r,u,j,D,q⟩ | ⟨T1,S1,p1,l,A,cz,rfl,hg,V,he,R,r,u,j,D,q⟩)
 ·go_wp2_with fail
  go_ret;exact qA G.out K.out J.out C r u j D q
 ·obtain ⟨gb,rfl,aa,o⟩:=j4 R V Z0
  match l,V with
  | [t0],_ =>
   obtain ⟨n0,c0,i0⟩:=o 0 t0 rfl;have a0:=nA i0;have NX:=u.notin2 v L.out.lt;have Z:=R.out gb rfl;have I:=hide (RH r.use r.bk (u.outs.blk L.out v) (c:=cz) c0 (fun h9=>NX (.inl h9)) r.nb (fun h9=>Z (.inl h9)));rw [a0] at I;go_wp2_with fail;refine I.out.mono ?_;rintro e w2 hD;have hF:=hide (oD (w:=w) G.out K.out Z0 J.out hg rfl he r u j D q (Bz t0) hD F hK);exact zzde2
theorem I8 (R:fe B b g s N) (h:Rd B b g s p T S w) (hN:s.size - p<N) {C by_ p0:Nat} (hx:Blk w C 176 #[.pointer (some ⟨b,0,none⟩)]) (v:¬ SR b S C) (I:alg.size<=1000000) (hy:Blk w by_ 9 #[.string alg]) (z:¬ SR b S by_) {c:UInt8} {s1:List UInt8}
  (U:s.data.toList.drop p0=c :: s1) (Y:c.toNat=240+6) (V:Hed 6 0 0 alg 2 s1 (s.data.toList.drop p)) (G:p0<p) (hK:T.length+2*(s.size - p0)<=900000000) :
  Calls prog 167 #[.pointer (some ⟨b,0,none⟩),.int .i64 2,.func (.func 172) #[] #[.pointer (some ⟨C,0,none⟩),.pointer (some ⟨by_,0,none⟩)]] w (Got B b g s p0 p T S w):=by
 have HS:=hide (lN R h hN 2 Z0);have H:=hide h;have P:=hide hx;have O:=hide Y;have L:=hide V;have J:=hide U;have Q:=hide hy;clear h R hx Y V U hy;go_enter func167,ntmps167;go_wp2_with fail;refine HS.out.mono ?_;rintro e w1 (⟨T1,S1,p1,rfl,D,u,q,o,F,r⟩ | ⟨T1,S1,p1,l,A,cz,rfl,hg,Z,he,X,u,q,o,F,r⟩)
 ·go_wp2_with fail
  go_ret;exact qA J.out O.out L.out D u q o F r
 ·obtain ⟨gb,rfl,aa,j⟩:=j4 X Z Z0
  match l,Z with
  | [t0,t1],_ =>
   obtain ⟨n0,c0,i0⟩:=j 0 t0 rfl;have a0:=nA i0;obtain ⟨n1,c1,i1⟩:=j 1 t1 rfl;have a1:=nA i1;have NX:=q.notin2 v P.out.lt;have NG:=X.out gb rfl;have NY:=q.notin2 z Q.out.lt;have K:=hide (Ra u.use u.bk (q.outs.blk P.out v) I (q.outs.blk Q.out z) (c:=cz) c0 c1 (fun h9=>NX (.inl h9)) u.nb (fun h9=>NG (.inl h9)) (fun h9=>NY (.inl h9)));rw [a0,a1] at K;go_wp2_with fail;refine K.out.mono ?_;rintro e w2 hD;have hF:=hide (oD (w:=w) J.out O.out Z0 L.out hg rfl he u q o F r (BS alg t0 t1) hD G hK);exact zzde2
theorem J5 (R:fe B b g s N) (h:Rd B b g s p T S w) (hN:s.size - p<N) {by_ p0:Nat} (hx:Blk w D 176 #[.pointer (some ⟨b,0,none⟩)]) (z:¬ SR b S D) (hq:q<256) (hy:Blk w by_ 5 #[.int .u8 (q:Nat)]) (C:¬ SR b S by_) {c:UInt8} {s1:List UInt8}
  (U:s.data.toList.drop p0=c :: s1) (Y:c.toNat=240+8) (V:Hed 8 0 q eB 3 s1 (s.data.toList.drop p)) (I:p0<p) (hK:T.length+2*(s.size - p0)<=900000000) :
  Calls prog 167 #[.pointer (some ⟨b,0,none⟩),.int .i64 3,.func (.func 173) #[] #[.pointer (some ⟨D,0,none⟩),.pointer (some ⟨by_,0,none⟩)]] w (Got B b g s p0 p T S w):=by
 have HS:=hide (lN R h hN 3 Z0);have H:=hide h;have P:=hide hx;have O:=hide Y;have L:=hide V;have J:=hide U;have Q:=hide hy;clear h R hx Y V U hy;go_enter func167,ntmps167;go_wp2_with fail;refine HS.out.mono ?_;rintro e w1 (⟨T1,S1,p1,rfl,F,v,r,o,G,u⟩ | ⟨T1,S1,p1,l,A,cz,rfl,hg,Z,he,X,v,r,o,G,u⟩)
 ·go_wp2_with fail
  go_ret;exact qA J.out O.out L.out F v r o G u
 ·obtain ⟨gb,rfl,aa,j⟩:=j4 X Z Z0
  match l,Z with
  | [t0,t1,t2],_ =>
   obtain ⟨n0,c0,i0⟩:=j 0 t0 rfl;have a0:=nA i0;obtain ⟨n1,c1,i1⟩:=j 1 t1 rfl;have a1:=nA i1;obtain ⟨n2,c2,i2⟩:=j 2 t2 rfl;have a2:=nA i2;have NX:=r.notin2 z P.out.lt;have NG:=X.out gb rfl;have NY:=r.notin2 C Q.out.lt;have K:=hide (QW v.use v.bk (r.outs.blk P.out z) hq (r.outs.blk Q.out C) (c:=cz) c0 c1 c2 (fun h9=>NX (.inl h9)) v.nb (fun h9=>NG (.inl h9)) (fun h9=>NY (.inl h9)));rw [a0,a1,a2] at K;go_wp2_with fail;refine K.out.mono ?_;rintro e w2 hD;have hF:=hide (oD (w:=w) J.out O.out Z0 L.out hg rfl he v r o G u (yg q hq t0 t1 t2) hD I hK);exact zzde2
theorem JG (R:fe B b g s N) (h:Rd B b g s p T S w) (hN:s.size - p<N) {by_ p0:Nat} (hx:Blk w D 176 #[.pointer (some ⟨b,0,none⟩)]) (z:¬ SR b S D) (hq:q<4294967296) (hy:Blk w by_ 3 #[.int .i64 (q:Nat)]) (C:¬ SR b S by_) {c:UInt8} {s1:List UInt8}
  (U:s.data.toList.drop p0=c :: s1) (Y:c.toNat=240+9) (V:Hed 9 0 q eB 2 s1 (s.data.toList.drop p)) (I:p0<p) (hK:T.length+2*(s.size - p0)<=900000000) :
  Calls prog 167 #[.pointer (some ⟨b,0,none⟩),.int .i64 2,.func (.func 176) #[] #[.pointer (some ⟨D,0,none⟩),.pointer (some ⟨by_,0,none⟩)]] w (Got B b g s p0 p T S w):=by
 have HS:=hide (lN R h hN 2 Z0);have H:=hide h;have P:=hide hx;have O:=hide Y;have L:=hide V;have J:=hide U;have Q:=hide hy;clear h R hx Y V U hy;go_enter func167,ntmps167;go_wp2_with fail;refine HS.out.mono ?_;rintro e w1 (⟨T1,S1,p1,rfl,F,v,r,o,G,u⟩ | ⟨T1,S1,p1,l,A,cz,rfl,hg,Z,he,X,v,r,o,G,u⟩)
 ·go_wp2_with fail
  go_ret;exact qA J.out O.out L.out F v r o G u
 ·obtain ⟨gb,rfl,aa,j⟩:=j4 X Z Z0
  match l,Z with
  | [t0,t1],_ =>
   obtain ⟨n0,c0,i0⟩:=j 0 t0 rfl;have a0:=nA i0;obtain ⟨n1,c1,i1⟩:=j 1 t1 rfl;have a1:=nA i1;have NX:=r.notin2 z P.out.lt;have NG:=X.out gb rfl;have NY:=r.notin2 C Q.out.lt;have K:=hide (Qk v.use v.bk (r.outs.blk P.out z) hq (r.outs.blk Q.out C) (c:=cz) c0 c1 (fun h9=>NX (.inl h9)) v.nb (fun h9=>NG (.inl h9)) (fun h9=>NY (.inl h9)));rw [a0,a1] at K;go_wp2_with fail;refine K.out.mono ?_;rintro e w2 hD;have hF:=hide (oD (w:=w) J.out O.out Z0 L.out hg rfl he v r o G u (Dz q hq t0 t1) hD I hK);exact zzde2
end
section
variable {B b g p p0 N : Nat} {s : ByteArray} {T : List Tm} {S : Nat -> Prop} {w w1 w2 : World} {c : UInt8} {s1 : List UInt8}
theorem jD (q:NoT (s.data.toList.drop p0)) (r:Rd B b g s j T S w1) (o:Grown (SR b S) w (SR b S) w1) (h:p<=j):Got B b g s p0 p T S w (.returned (.int .i64 (-1))) w1 :=
 ⟨T,-1,S,j,none,rfl,dB _,gN q,r,o,Yl _,Z0,h⟩
theorem xG {k a v:Nat} {s':ByteArray} (C:s.data.toList.drop p0=c :: s1) (J:c.toNat=240+k) (K:k<=10) (I:Hed k a v s' 0 s1 (s.data.toList.drop j))
  (r:Rd B b g s j T S w1) (G:Grown (SR b S) w (SR b S) w1) (u:p<=j) (L:jl k a v s' [] o) (F:Done B w1 g T S o e w2) (O:p0<p) (R:T.length+2*(s.size - p0)<=900000000):Got B b g s p0 p T S w e w2:=by
 obtain ⟨A,m,z,rfl,q,D,h⟩:=F;have P:=q.len;have Q:=r.hp;exact ⟨A,m,z,j,o,rfl,q.idn,lY r.hs C J K I (l:=[]) trivial rfl (by simp [encs]) L,r.grown h D Z0,G.trans (h.sr b),q.pre,Z0,u⟩
theorem kw (h:Rd B b g s p T S w):w.cell? ⟨b,0,none⟩=some (.pointer (some ⟨g,0,none⟩)):=Blk.cell h.bk 0
def VM (B b g:Nat) (s:ByteArray) (p:Nat) (T:List Tm) (S:Nat->Prop) (w:World) (e:Ending) (w':World):Prop :=
 (∃p',e=.returned (.tuple #[.string ⟨#[]⟩,.bool false])/\(s.size<p+4\/(p+4<=s.size/\s.size<p+4+n4 (s.data.toList.drop p)))/\Rd B b g s p' T S w'/\Grown (SR b S) w (SR b S) w'/\p<=p') \/
 (∃n,n=n4 (s.data.toList.drop p)/\p+4+n<=s.size/\e=.returned (.tuple #[.string (bs ((s.data.toList.drop (p+4)).take n)),.bool true])/\Rd B b g s (p+4+n) T S w'/\Grown (SR b S) w (SR b S) w')
theorem xA (h:Rd B b g s p T S w):Calls prog 171 #[.pointer (some ⟨b,0,none⟩)] w (VM B b g s p T S w):=by
 have hs:s.size<=1000000:=by have:=h.hs;omega
 by_cases q:s.size<p+4
 ·refine (Ej h.bk hs h.hp q).mono ?_
  rintro e w' ⟨rfl,o,j⟩;exact .inl ⟨p,rfl,.inl q,h.by_ o j h.hp (Y2 _),iB j,Y2 _⟩
 ·by_cases r:s.size<p+4+n4 (s.data.toList.drop p)
  ·refine (En h.bk hs rfl Z0 r).mono ?_
   rintro e w' ⟨rfl,o,j⟩;exact .inl ⟨p+4,rfl,.inr ⟨Z0,r⟩,h.by_ o j Z0 Z0,iB j,Z0⟩
  ·refine (FH h.bk hs rfl Z0).mono ?_
   rintro e w' ⟨rfl,o,j⟩;exact .inr ⟨_,rfl,Z0,rfl,h.by_ o j Z0 Z0,iB j⟩
def VW (B b g:Nat) (s:ByteArray) (p:Nat) (T:List Tm) (S:Nat->Prop) (w:World) (e:Ending) (w':World):Prop :=
 (e=.returned (.tuple #[.int .i64 0,.bool false])/\s.size<p+4/\Rd B b g s p T S w'/\Grown (SR b S) w (SR b S) w') \/
 (p+4<=s.size/\e=.returned (.tuple #[.int .i64 (n4 (s.data.toList.drop p)),.bool true])/\Rd B b g s (p+4) T S w'/\Grown (SR b S) w (SR b S) w')
theorem qY (h:Rd B b g s p T S w):Calls prog 175 #[.pointer (some ⟨b,0,none⟩)] w (VW B b g s p T S w):=by
 have hs:s.size<=1000000:=by have:=h.hs;omega
 by_cases q:s.size<p+4
 ·refine (AB h.bk hs h.hp q).mono ?_
  rintro e w' ⟨rfl,o,j⟩;exact .inl ⟨rfl,q,h.by_ o j h.hp (Y2 _),iB j⟩
 ·refine (nT h.bk hs Z0).mono ?_
  rintro e w' ⟨rfl,o,j⟩;exact .inr ⟨Z0,rfl,h.by_ o j Z0 Z0,iB j⟩
def U4 (B b g:Nat) (s:ByteArray) (p:Nat) (T:List Tm) (S:Nat->Prop) (w:World) (e:Ending) (w':World):Prop :=
 (e=.returned (.tuple #[.int .u8 0,.bool false])/\p=s.size/\Rd B b g s p T S w'/\Grown (SR b S) w (SR b S) w') \/
 (∃c:UInt8,s.data.toList.drop p=c :: s.data.toList.drop (p+1)/\p+1<=s.size/\e=.returned (.tuple #[.int .u8 c.toNat,.bool true])/\Rd B b g s (p+1) T S w'/\Grown (SR b S) w (SR b S) w')
theorem xS (h:Rd B b g s p T S w):Calls prog 166 #[.pointer (some ⟨b,0,none⟩)] w (U4 B b g s p T S w):=by
 have hs:s.size<=1000000:=by have:=h.hs;omega
 refine (Lj h.bk hs h.hp).mono ?_;rintro e w' ⟨r,he,q,o⟩
 by_cases j:p<s.size
 ·rw [dif_pos j] at he
  obtain ⟨rfl,rfl⟩:=he;exact .inr ⟨s[p],fF (s:=s.data.toList) j,j,rfl,h.by_ q o j Z0,iB o⟩
 ·rw [dif_neg j] at he
  obtain ⟨rfl,rfl⟩:=he;have:=h.hp;exact .inl ⟨rfl,Z0,h.by_ q o h.hp (Y2 _),iB o⟩
theorem zz2bb (h_:p_:=by
 go_wp2_with fail;refine HD.out.mono ?_;intro e w2 hD;have hF:=hide (HF.out e w2 hD);obtain ⟨T2,m,S2,rfl,_⟩:=hD;go_wp2_with fail;go_ret
 exact hF.out):p_:=h_
theorem Kb (h:Rd B b g s (p0+1) T S w) (v:s.data.toList.drop p0=c :: s.data.toList.drop (p0+1)) (A:c.toNat=241) (G:T.length+2*(s.size - p0)<=900000000) :
  Calls prog 180 #[.pointer (some ⟨b,0,none⟩),.int .i64 1] w (Got B b g s p0 (p0+1) T S w):=by
 have F:=hide (xA h);have H:=hide h;have u:=hide v;have C:=h.len;have K:=h.hs;clear h v;go_enter func180,ntmps180;go_wp2_with fail;refine F.out.mono ?_;rintro e w1 (⟨O,rfl,J,j,q,r⟩ | ⟨n,D,L,rfl,j,q⟩)
 ·go_wp2_with fail
  go_ret;refine jD ?_ j q r;rw [u.out];exact no1 A Z0
 ·have I:=kw j
  have o:(bs ((s.data.toList.drop (p0+1+4)).take n)).size<=1000000:=by
   show ((s.data.toList.drop (p0+1+4)).take n).length<=1000000;rw [Yq];omega
  have HD:=hide (oU j.use o)
  have z:Hed 1 0 0 (bs ((s.data.toList.drop (p0+1+4)).take n)) 0 (s.data.toList.drop (p0+1)) (s.data.toList.drop (p0+1+4+n)):=by
   have:=U0 (s1:=s.data.toList.drop (p0+1)) Z0 Z0;rw [Yr,Yr,<- D] at this;rw [show p0+1+4+n=p0+1+(4+n) by omega];exact this
  have HF:=hide (fun e w2 (hD:Done B w1 g T S (aM (bs ((s.data.toList.drop (p0+1+4)).take n))) e w2)=>xG (w:=w) (p:=p0+1) u.out A Z0 z j q Z0 (BA _ Z0) hD Z0 G);clear z j q D o;generalize bs ((s.data.toList.drop (p0+1+4)).take n)=x at HD HF ⊢;exact zz2bb
theorem PD (h:Rd B b g s (p0+1) T S w) (r:s.data.toList.drop p0=c :: s.data.toList.drop (p0+1)) (v:c.toNat=243) (C:T.length+2*(s.size - p0)<=900000000) :
  Calls prog 180 #[.pointer (some ⟨b,0,none⟩),.int .i64 3] w (Got B b g s p0 (p0+1) T S w):=by
 have A:=hide (qY h);have q:=hide r;have z:=h.len;clear h r;go_enter func180,ntmps180;go_wp2_with fail;refine A.out.mono ?_;rintro e w1 (⟨rfl,F,j,o⟩ | ⟨G,rfl,j,o⟩)
 ·go_wp2_with fail
  go_ret;refine jD ?_ j o (Y2 _);rw [q.out];exact no3 v Z0
 ·have D:=kw j
  have HD:=hide (Dk j.use (n4 (s.data.toList.drop (p0+1)):Nat))
  have u:Hed 3 (n4 (s.data.toList.drop (p0+1))) 0 eB 0 (s.data.toList.drop (p0+1)) (s.data.toList.drop (p0+1+4)):=by
   have:=Vs (s1:=s.data.toList.drop (p0+1)) Z0;rw [Yr] at this;exact this
  have HF:=hide (fun e w2 hD=>xG (e:=e) (w2:=w2) (w:=w) (p:=p0+1) q.out v Z0 u j o Z0 (Gs _) hD Z0 C);clear u j o;generalize n4 (s.data.toList.drop (p0+1))=x at HD HF ⊢;exact zz2bb
theorem Fv (h:Rd B b g s (p0+1) T S w) (I:s.data.toList.drop p0=c :: s.data.toList.drop (p0+1)) (G:c.toNat=242) (O:T.length+2*(s.size - p0)<=900000000) :
  Calls prog 180 #[.pointer (some ⟨b,0,none⟩),.int .i64 2] w (Got B b g s p0 (p0+1) T S w):=by
 have L:=hide (qY h);have A:=hide I;have K:=h.len;clear h I;go_enter func180,ntmps180;go_wp2_with fail;refine L.out.mono ?_;rintro e w1 (⟨rfl,Q,z,q⟩ | ⟨V,rfl,z,q⟩)
 ·have u:=hide (qY z)
  go_wp2_with fail;refine u.out.mono ?_;rintro e w2 (⟨rfl,r,j,o⟩ | ⟨F,rfl,j,o⟩)
  ·go_wp2_with fail
   go_ret;refine jD ?_ j (q.trans o) (Y2 _);rw [A.out];exact no2 G Z0
  ·omega
 ·have u:=hide (qY z)
  go_wp2_with fail;refine u.out.mono ?_;rintro e w2 (⟨rfl,r,j,o⟩ | ⟨F,rfl,j,o⟩)
  ·go_wp2_with fail
   go_ret;refine jD ?_ j (q.trans o) Z0;rw [A.out];exact no2 G Z0
  ·have P:=kw j
   have C:=hide (Gt j.use (n4 (s.data.toList.drop (p0+1)):Nat) (n4 (s.data.toList.drop (p0+1+4)):Nat))
   have J:Hed 2 (n4 (s.data.toList.drop (p0+1))) (n4 (s.data.toList.drop (p0+1+4))) eB 0 (s.data.toList.drop (p0+1)) (s.data.toList.drop (p0+1+4+4)):=by
    have:=U7 (s1:=s.data.toList.drop (p0+1)) Z0;rw [Yr,Yr] at this;exact this
   have D:=hide (fun e w3 v=>xG (e:=e) (w2:=w3) (w:=w) (p:=p0+1) A.out G Z0 J j (q.trans o) Z0 (zW _ _) v Z0 O);clear J z q j o u;generalize n4 (s.data.toList.drop (p0+1))=x at C D ⊢;generalize n4 (s.data.toList.drop (p0+1+4))=y at C D ⊢;go_wp2_with fail;refine C.out.mono ?_;intro e w3 v;have hF:=hide (D.out e w3 v);obtain ⟨U,m,R,rfl,_⟩:=v;go_wp2_with fail;go_ret;exact hF.out
theorem Gm (h:Rd B b g s (p0+1) T S w) (k:Int) (q:¬ k=1) (r:¬ k=2) (u:¬ k=3) (j:NoT (s.data.toList.drop p0)) :
  Calls prog 180 #[.pointer (some ⟨b,0,none⟩),.int .i64 k] w (Got B b g s p0 (p0+1) T S w):=by
 have H:=hide h;have o:=hide j;clear h j;go_enter func180,ntmps180;go_wp2_with fail;go_ret;exact jD o.out H.out (Grown.refl _ _) (Y2 _)
end
theorem TU {p:Option Tm} (g:bD o) (hp:bD p):((bs (txt o)).toList == (bs (txt p)).toList)=true↔o=p:=by
 rw [ay,ay,beq_iff_eq];exact ⟨fun h=>SK (fun t e=>(g t e).1) (fun t e=>(hp t e).1) h,fun h=>by rw [h]⟩
theorem Fh :((bs (txt o)).toList == [])=true↔o=none:=by
 rw [ay,beq_iff_eq]
 cases o with
 | none=>simp [txt]
 | some t=>simp [txt,qc]
section
variable {w : World}
theorem Gu (g:Int) (w:World):Calls prog 79 #[.int .i64 g] w (Says (txt (pI (lh g))) w):=by
 have HK:=hide (Di g w);have o:=hide (fun W=>Oa (kv g) W);go_enter func79,ntmps79;go_wp2_with fail;refine HK.out.mono ?_;rintro e w1 ⟨rfl,h⟩;go_wp2_with fail;refine (o.out _).mono ?_;rintro e w2 ⟨rfl,j⟩;go_wp2_with fail;go_ret;exact ⟨rfl,h.trans (j.mono h.size)⟩
end
def oq (B:Nat) (w:World) (g:Nat) (T:List Tm) (S:Nat->Prop) (os:List (Option Tm)) (e:Ending) (w':World):Prop :=
 ∃T' S' v,e=.returned v/\IdO w.heap.size w' T' os v S'/\T <+: T'/\T'.length<=T.length+os.length/\Ar B w' g T' S'/\Grown S w S' w'
structure Vi (B:Nat) (w:World) (g:Nat) (T:List Tm) (S:Nat->Prop) (os:List (Option Tm)) (i:Nat) (wr:World) (T':List Tm) (S':Nat->Prop) (v:Value):Prop where
 ar:Ar B wr g T' S'
 grown:Grown S w S' wr
 pre:T <+: T'
 few:T'.length<=T.length+i
 ids:IdO w.heap.size wr T' (os.take i) v S'
section
variable {B g : Nat} {w : World} {T : List Tm} {S : Nat -> Prop}
theorem Kw (h:Use B w g T S) {c lo:Nat} {ss:List ByteArray} (hs:Sl lo w 1 A ss.length (ss.map Value.string)) (P:∀i,S i->i<lo) (hz:∀s∈ss,s.size<=1000000) (hl:ss.length<=1000) (hT:T.length+ss.length<=1000000000) :
    Calls prog 185 #[.pointer (some ⟨g,0,none⟩),.slice A ss.length c] w (oq B w g T S (ss.map aM)):=by
  have HU:=hide h;have HL:=hide hs;have Hz:=hide hz;have Z:=hide P
  have Y:Hid (Vi B w g T S (ss.map aM) 0 w T S (.slice none 0 0)):=⟨h.ar,Grown.refl _ _,Yl _,Y2 _,Af _ _ _ _⟩
  clear h hs hz P;go_enter func185,ntmps185;go_wp2_with fail
  go_loopw [10,5] (fun vi v wr=>∃(i:Nat) (X:List Tm) (V:Nat->Prop),vi=.int .i64 i/\i<=ss.length/\Vi B w g T S (ss.map aM) i wr X V v) (fun vi _ _=>ss.length - (intOf vi).toNat)
  case atStart=>exact ⟨0,T,S,rfl,Yb _,Y.out⟩
  case round =>
    obtain ⟨i,X,V,rfl,hi,o⟩:=hrel;have p:=hide o;obtain ⟨A1,c1,hv⟩:=o.ids.sl;have D:((ss.map aM).take i).length=i:=by rw [Yq,Yd];omega
    rw [D] at hv;subst hv;have aw:=o.grown.size
    by_cases j:i<ss.length
    · have an:(i:Int)<ss.length:=by omega
      obtain ⟨ad,u,rfl,av,ap,hu,L⟩:=HL.out.at_ (k:=i) j;have z:=o.grown.outs.cell L (by rw [ax];intro h9;have:=Z.out _ h9;omega);rw [Yt,Y1 j] at hu;simp only [Option.map_some,Option.some.injEq] at hu;subst hu;have U:=Hz.out _ (Yf j);have K:Use B wr g X V:=HU.out.grown o.grown o.ar (by have:=o.few;omega);have HD:=hide (oU K U)
      have R:(ss.map aM).take (i+1)=(ss.map aM).take i++[aM ss[i]]:=by
        rw [Yh (by rw [Yd];exact j),List.getElem_map]
      have q:=hide R;obtain ⟨iI,am,aa,ab,ac⟩:=info_parts Ay;clear L R K o;generalize ss[i]=s at HD q z U
      go_wp2_with (first
        | (go_at_call 38;refine HD.out.mono ?_;rintro e wx ⟨T2,n2,S2,rfl,hp,J,hG⟩;
           have I:=p.out.ids.grown hG hp.pre;obtain ⟨ns,F,O⟩:=I.ids;rw [D] at F;have aq:=hG.size)
        | (at_builtin;refine aB _ rfl (.tmp 14) (.tmp 18) _ rfl w.heap.size 39 iI (.int .i64 0) 1 8 underlying124 am aa ab ac rfl Z2 _ _ _ rfl (F.alloc _) _ (some ⟨_,0,none⟩) 1 1 [.int .i64 n2] rfl (eD (Blk.new _ _ _) rfl) Zd Ze Z0 (by simp;omega) ?_;intro v6 w6 G N Q)
        | fail)
      have r:=p.out
      have k0:Kp B w g T2 S S2 wx:=⟨J,r.grown.trans hG⟩
      have k1:=k0.step (dK (az wx none) (.cells #[.int .i64 n2] 39)) (fun b e=>Xv);have k2:=k1.step N (fun b e=>⟨(F.lt b e).1,I.out b e⟩);have ao:((ss.map aM).take (i+1)).length=i+1:=by rw [q.out,Ya,D];rfl
      have C:=O.snoc hp.idn;have af:=J.sL;refine ⟨⟨i+1,T2,S2,Zr,Z0,k2.ar,k2.grown,r.pre.trans hp.pre,by have:=hp.len;have:=r.few;omega,⟨ns++[n2],?_,?_⟩,?_⟩,Zh⟩
      · rw [ao];simpa using G
      · rw [q.out];exact C
      · exact at_new Q I.out (fun i hi=>by have:=af i hi;simp;omega)
    · obtain rfl:i=ss.length:=by omega
      have an:¬ (ss.length:Int)<ss.length:=Z0;have I:=p.out.ids;rw [Yp Z3] at I;go_wp2;go_ret;exact ⟨X,V,_,rfl,I,p.out.pre,by simpa using p.out.few,p.out.ar,p.out.grown⟩
end
theorem oq.from_ {B g:Nat} {w w2 w':World} {T:List Tm} {S:Nat->Prop} (h:oq B w2 g T S os e w') (p:Below w.heap.size w w2):oq B w g T S os e w':=by
 obtain ⟨r,q,v,u,⟨⟨ns,z,o⟩,j⟩,A,C,D,F⟩:=h;exact ⟨r,q,v,u,⟨⟨ns,iZ z p.size,o⟩,j⟩,A,C,D,(Grown.of_below p).trans F⟩
theorem oq.nil_ {B g:Nat} {w w':World} {T:List Tm} {S:Nat->Prop} (h:Ar B w g T S) (j:Below w.heap.size w w'):oq B w g T S [] (.returned (.slice none 0 0)) w' :=
 ⟨T,S,_,rfl,Af _ _ _ _,Yl _,Y2 _,h.below j,Grown.of_below j⟩
structure Wt (p:Uv):Prop where
 w0:p.w0<4294967296
 w1:p.w1<4294967296
 w2:p.w2<4294967296
 v0:p.v0.size<=1000000
 v1:p.v1.size<=1000000
 v2:p.v2.size<=1000000
 v3:p.v3.size<=1000000
 gp:p.gp.size<=300000
 gg:p.gg.size<=300000
section
variable {B g : Nat} {w : World} {T : List Tm} {S : Nat -> Prop}
theorem oq.open_ {w':World} (h:oq B w g T S os e w'):∃j o A c,e=.returned (.slice A os.length c)/\IdO w.heap.size w' j os (.slice A os.length c) o/\T <+: j/\j.length<=T.length+os.length/\Ar B w' g j o/\Grown S w o w':=by
 obtain ⟨j,o,v,q,p,r⟩:=h;obtain ⟨A,c,rfl⟩:=p.sl;exact ⟨j,o,A,c,q,p,r⟩
end
theorem lg.app {T:List Tm} {ms q:List (Option Tm)} {r:List Int} (h:lg T ms ns) (z:lg T q r):lg T (ms++q) (ns++r):=by
 refine ⟨by simp [h.1,z.1],fun i o n u v=>?_⟩;rcases Nat.lt_or_ge i ms.length with p | j
 ·rw [Yn p] at u
  rw [Yn (by rw [h.1];exact p)] at v;exact h.2 i o n u v
 ·rw [Ys j] at u
  rw [Ys (by rw [h.1];exact j),h.1] at v;exact z.2 _ o n u v
theorem Dq {T:List Tm} {n:Int} (h:Idn T o n):lg T [o] [n]:=(Cx T).snoc h
theorem G7 {B g:Nat} {w q w':World} {j:List Tm} {S p:Nat->Prop} {os1:List (Option Tm)} {v v':Value} {k:Nat}
  (C:q.ownsRow w.heap.size 39 1 v os1.length (ns.map (Value.int .i64))) (r:lg j os1 ns) (h:∀i,v.ownBlock=some i->¬ p i) (hi2:lg j os2 ms) (A:Kp B w g j S p q)
  (o:w'.ownsRow w.heap.size 39 1 v' k (ns.map (Value.int .i64)++ms.map (Value.int .i64))) (u:k=os1.length+os2.length) (hgr:q.grownBy w' v.ownBlock) (z:v'.ownBlock=v.ownBlock\/v'.ownBlock=some q.heap.size) :
  IdO w.heap.size w' j (os1++os2) v' p/\Kp B w g j S p w':=by
 subst u;refine ⟨⟨⟨ns++ms,by simpa using o,r.app hi2⟩,at_new z h A.ar.sL⟩,A.step hgr fun b e=>⟨(C.lt b e).1,h b e⟩⟩
def Ti (B:Nat) (w:World) (g:Nat) (T:List Tm) (S:Nat->Prop) (o:Option Tm) (m:Nat) (e:Ending) (w':World):Prop :=
 ∃T' n S',e=.returned (.int .i64 n)/\Idn T' o n/\T <+: T'/\T'.length<=T.length+m/\Ar B w' g T' S'/\Grown S w S' w'
def UJ (B:Nat) (w:World) (g:Nat) (T:List Tm) (S:Nat->Prop) (os:List (Option Tm)) (m:Nat) (v:Value) (wx:World):Prop :=
 ∃T' S' A c,v=.slice A os.length c/\IdO w.heap.size wx T' os v S'/\T <+: T'/\T'.length<=T.length+m/\Kp B w g T' S S' wx
section
variable {B g : Nat} {w : World} {T : List Tm} {S : Nat -> Prop}
theorem Kp.below_ {o:Nat->Prop} {j W:World} (h:Kp B w g T o S j) (p:Below j.heap.size j W):Kp B w g T o S W:=⟨h.ar.below p,h.grown.trans (Grown.of_below p)⟩
theorem Q0 {q A:World} {j:Nat->Prop} {A9:Option Addr} {u c9 k:Nat}
  (h9:IdO w.heap.size r h os (.slice A9 u c9) j/\T <+: h/\h.length<=T.length+m/\Ar B r g h j/\Grown S w j r) (L:Below r.heap.size r q)
  (O:q.ownsRow w.heap.size 39 1 (.slice A9 u c9) os.length (ns.map (Value.int .i64))) (v:lg h os ns) (hi2:lg h os2 ms)
  (p:A.ownsRow w.heap.size 39 1 (.slice A7 k c7) k (ns.map (Value.int .i64)++ms.map (Value.int .i64))) (o:k=os.length+os2.length) (hgr:q.grownBy A (Value.slice A9 u c9).ownBlock) (z:(Value.slice A7 k c7).ownBlock=(Value.slice A9 u c9).ownBlock\/(Value.slice A7 k c7).ownBlock=some q.heap.size) :
  UJ B w g T S (os++os2) m (.slice A7 k c7) A:=by
 obtain ⟨C,D,F,G,I⟩:=h9;have N:Kp B w g h S j q:=Kp.below_ ⟨G,I⟩ L;obtain ⟨J,K⟩:=G7 O v C.out hi2 N p o hgr z;exact ⟨h,j,A7,c7,by rw [Ya,o],J,D,F,K⟩
theorem UT {W j:World} {b:Nat} (o:b=W.heap.size) (h:Below (W.heap.size+1) (W.alloc (.cells cs t)) j):Blk j b t cs:=by
 subst o;exact (Blk.new W t cs).below h (Nat.lt_succ_self _)
theorem oq.open2 {w':World} (h:oq B w g T S os e w'):∃j o A c n ns,n=os.length/\e=.returned (.slice A n c)/\w'.ownsRow w.heap.size 39 1 (.slice A n c) n (ns.map (Value.int .i64))/\lg j os ns/\T <+: j/\j.length<=T.length+os.length/\Ar B w' g j o/\Grown S w o w':=by
 obtain ⟨j,o,A,c,p,q,r,u,v,z⟩:=h.open_;obtain ⟨ns,C,h8⟩:=q.ids;exact ⟨j,o,A,c,_,ns,rfl,p,C,h8,r,u,v,z⟩
end
theorem IW {w:World} {b base n:Nat} {e:TypeId} {j:List Value} (h:Blk w b e cs) (o:base<=b) (hn:cs.size=n) (p:n<=maxLen) (q:cs.toList=j):w.ownsRow base e 1 (.slice (some ⟨b,0,none⟩) n n) n j:=by
 subst q;refine ⟨XN,.inr ⟨b,n,cs,rfl,o,h,Y2 _,p,Z0,?_⟩⟩;rw [Yp (by simp;omega)]
section
variable {B g : Nat} {w : World} {T : List Tm} {S : Nat -> Prop}
theorem JK (h:Use B w g T S) {W:World} (v:Below w.heap.size w W) (ss:List ByteArray) (G:∀s∈ss,s.size<=1000000) (z:ss.length<=1000) (r:T.length+ss.length<=1000000000) (b:Nat) (t:TypeId) (C:Array Value) (q:C=(ss.map Value.string).toArray) (p:Blk W b t C) (o:w.heap.size<=b) (n:Nat) (A:n=ss.length) (os:List (Option Tm)) (D:os=ss.map aM) :
  Calls prog 185 #[.pointer (some ⟨g,0,none⟩),.slice (some ⟨b,0,none⟩) n n] W (oq B W g T S os):=by
 subst q A D
 have hs:Sl b W 1 (some ⟨b,0,none⟩) ss.length (ss.map Value.string):=by
  refine ⟨Z3,fun _=>⟨_,rfl,Y2 _,p.lt,fun j u F=>?_⟩⟩;rw [cu,p.cell j];simpa using F
 exact Kw (h.below v) hs (fun i hi=>Yi (h.ar.sL i hi) o) G z r
theorem QM {W u C:World} {j:Nat->Prop} {n:Int} {b k:Nat} 
  (v:Below w.heap.size w W) (I:Grown S W j u) (G:Ar B u g h j) (hp:T <+: h) (L:h.length<=T.length+m) (J:Below u.heap.size u r) (z:¬ j b)
  (N:r.ownsRow w.heap.size 39 1 (.slice (some ⟨b,0,none⟩) 1 1) 1 [.int .i64 n]) (hi:Idn h o n) (hi2:lg h os2 ms)
  (q:C.ownsRow w.heap.size 39 1 (.slice A7 k c7) k ([Value.int .i64 n]++ms.map (Value.int .i64))) (p:k=1+os2.length) (hgr:r.grownBy C (Value.slice (some ⟨b,0,none⟩) 1 1).ownBlock) (A:(Value.slice A7 k c7).ownBlock=(Value.slice (some ⟨b,0,none⟩) 1 1).ownBlock\/(Value.slice A7 k c7).ownBlock=some r.heap.size) :
  UJ B w g T S (o :: os2) m (.slice A7 k c7) C:=by
 have K:Kp B w g h S j r:=Kp.below_ ⟨G,(Grown.of_below v).trans I⟩ J;obtain ⟨D,F⟩:=G7 (os1:=[o]) (ns:=[n]) (os2:=os2) (ms:=ms) (v':=.slice A7 k c7) N (Dq hi) (fun i hi=>by simp [Value.ownBlock] at hi;subst hi;exact z) hi2 K q p hgr A;exact ⟨h,j,A7,c7,by rw [Yv,p,Nat.add_comm],D,hp,L,F⟩
theorem CF (h:Use B w g T S) {p:Option Tm} {n nk:Int} (ho:Idn T o n) (hk:Idn T p nk) (bm:user.size<=1000000) (bn:service.size<=1000000) (bo:alg.size<=1000000) (hT:T.length<=10000000) :
  Calls prog 103 #[.pointer (some ⟨g,0,none⟩),.int .i64 n,.string user,.string service,.string alg,.int .i64 nk] w (Ti B w g T S (O3 o user service alg p) 8):=by
 have bg:=h.ar.sL;have nS:∀i,w.heap.size<=i->¬ S i:=fun i h1 h2=>by have:=bg i h2;omega
 have HD:=hide (fun (W:World) (hb:Below w.heap.size w W) (b:Nat) (hB:Blk W b 9 #[.string uF,.string user,.string service,.string uA,.string uC,.string alg]) (hbw:w.heap.size<=b)=>JK h hb [uF,user,service,uA,uC,alg] (by
   intro s hs;simp only [Yz,List.not_mem_nil,or_false] at hs;rcases hs with rfl | rfl | rfl | rfl | rfl | rfl
   ·decide
   ·exact bm
   ·exact bn
   ·decide
   ·decide
   ·exact bo) Z3 (by simp;omega) b 9 #[.string uF,.string user,.string service,.string uA,.string uC,.string alg] rfl hB hbw 6 rfl [aM uF,aM user,aM service,aM uA,aM uC,aM alg] rfl)
 have J:([aM uF,aM user,aM service,aM uA,aM uC,aM alg]:List (Option Tm)).length=6:=rfl;obtain ⟨iI,aE,am,an,ao⟩:=info_parts Ay;have Hk:=hide hk;have Ho:=hide ho;have HU:=hide h;clear h ho hk;go_enter func103,ntmps103;go_upto_region 1 with fail;go_cut [13] (fun v wx=>UJ B w g T S [o,aM uF,aM user,aM service,aM uA,aM uC,aM alg] 6 v wx)
 case first =>
  have aq:Below w.heap.size w ((w.alloc (.cells #[.int .i64 n] 39)).alloc (.cells #[.string uF,.string user,.string service,.string uA,.string uC,.string alg] 9)):=((Below.refl _ _).alloc (Y2 _) _).alloc Z3 _;have a6:=hide (HD.out _ aq (w.heap.size+1) (UT (W:=(w.alloc (.cells #[.int .i64 n] 39))) Z3 (Below.refl _ _)) Z0);have bd:Blk ((w.alloc (.cells #[.int .i64 n] 39)).alloc (.cells #[.string uF,.string user,.string service,.string uA,.string uC,.string alg] 9)) w.heap.size 39 #[.int .i64 n]:=(Blk.new w _ _).alloc _;have bt:w.heap.size<((w.alloc (.cells #[.int .i64 n] 39)).alloc (.cells #[.string uF,.string user,.string service,.string uA,.string uC,.string alg] 9)).heap.size:=by simp;omega
  go_wp2_with (first
   | (go_at_call 185;go_loud (refine a6.out.mono ?_;rintro e x6 bj;obtain ⟨T9,S9,A9,c9,n9,V,L,rfl,N,r,a0,D,bc,R⟩:=bj.open2;rw [J] at L D;subst L;have bh:=R.outs_.blk bd (nS _ (Y2 _));have a4:=IW (base:=w.heap.size) (n:=1) bh (Y2 _) rfl (show 1<=maxLen by unfold maxLen;omega) rfl))
   | (at_builtin;refine aB _ rfl (.tmp 15) (.tmp 21) _ rfl w.heap.size 39 iI (.int .i64 0) 1 8 underlying124 aE am an ao rfl Z2 (.slice (some ⟨w.heap.size,0,none⟩) 1 1) 1 [.int .i64 n] rfl a4 _ A9 6 c9 (V.map (Value.int .i64)) rfl (Reads.of_own N) (fun u hu=>by obtain ⟨x,_,rfl⟩:=List.mem_map.1 hu;rfl) Ze Z0 (by have:=R.size;omega) ?_;intro v7 w7 O aw aF;obtain ⟨A7,c7,rfl⟩:=iH O)
   | fail)
  all_goals go_meet
  all_goals exact QM aq R bc a0 D (Below.refl _ _) (fun hh=>by rcases R.new _ hh with h1 | h1;exact nS _ (Y2 _) h1;omega) a4 (Ho.out.pre a0) r O rfl aw aF
 case rest =>
  obtain ⟨wx,rfl⟩:∃wx:World,wx=wc:=⟨wc,rfl⟩
  obtain ⟨T5,S5,A5,c5,a3,h5,Q,I,F⟩:=hcut;have U:([o,aM uF,aM user,aM service,aM uA,aM uC,aM alg]:List (Option Tm)).length=7:=rfl;rw [U] at a3;subst a3;clear HD J;have av:=F.grown;have br:=av.size;obtain ⟨bq,ab,Y⟩:=h5.ids;rw [U] at ab;have ac:=hide U;have a8:=hide (Y4 h5 (Y4 Q (Y4 I (Y4 F Y))));clear h5 Q I F Y U av
  go_wp2_with (first
   | (at_builtin;refine aB _ rfl (.tmp 24) (.tmp 26) _ rfl w.heap.size 39 iI (.int .i64 0) 1 8 underlying124 aE am an ao rfl Z2 (.slice A5 7 c5) 7 (bq.map (Value.int .i64)) rfl (ab.alloc _) _ (some ⟨_,0,none⟩) 1 1 [.int .i64 nk] rfl (eD (Blk.new _ _ _) rfl) Zd Ze Z0 (by simp;omega) ?_;intro v9 w9 P X aa;obtain ⟨A9,c9,rfl⟩:=iH P;obtain ⟨h8,A,K,G,Z⟩:=a8.out;have be:=Q0 (m:=6) (os2:=[p]) (ms:=[nk]) ⟨h8,A,K,G.ar,G.grown⟩ (bz (.cells #[.int .i64 nk] 39)) (by rw [ac.out];exact ab.alloc _) Z (Dq (Hk.out.pre A)) P (by rw [ac.out];rfl) X aa;obtain ⟨T9,S9,bw,bx,bl,h9,q,z,j⟩:=be;obtain ⟨V,N,r⟩:=h9.ids;have D:([o,aM uF,aM user,aM service,aM uA,aM uC,aM alg]++[p]).length=8:=rfl;rw [D] at N;have ap:Use B w9 g T9 S9:=HU.out.grown j.grown j.ar Z0;have L:V.length=8:=r.1.trans D;have a7:=hide (zB ap (AQ L.symm N) Z0);have a5:=hide r.args;have a9:=hide (Y4 h9 (Y4 q (Y4 z j)));clear r ap L D N h9 q z j bl h8 A K G Z X aa)
   | (go_at_call 179;refine a7.out.mono ?_;rintro e b0 ⟨bb,bp,ba,rfl,C,ad,af⟩)
   | fail)
  go_ret;obtain ⟨h9,q,z,j⟩:=a9.out;have hO:gB (List.map (arg T9) V)=O3 o user service alg p:=by rw [a5.out];rfl
  rw [hO] at C;exact ⟨bb,bp,ba,rfl,C.idn,q.trans C.pre,by have:=C.len;omega,ad,j.grown.trans af⟩
theorem LZ (h:Use B w g T S) {n:Int} (ho:Idn T o n) (R:user.size<=1000000) (U:service.size<=1000000) (V:alg.size<=1000000) (u:Int) (hT:T.length<=1000000) :
  Calls prog 56 #[.pointer (some ⟨g,0,none⟩),.int .i64 n,.string user,.string service,.string alg,.int .i64 u] w (Ti B w g T S (lU o user service alg u) 11):=by
 have HK:=hide (Dk h u);have H:=hide h;clear h;go_enter func56,ntmps56;go_wp2_with fail;refine HK.out.mono ?_;rintro e w1 ⟨T1,n1,S1,rfl,p,C,G⟩;have aa:=p.len;have v:=hide (H.out.grown G C Z0);have X:=hide (Cz v.out n1);rw [p.idn.1] at X;have N:=hide p;clear C p;go_wp2_with fail;refine X.out.mono ?_;rintro e w2 ⟨T2,n2,S2,rfl,j,D,I⟩;have ab:=j.len;have z:=hide (v.out.grown I D Z0);have Z:=hide (CF z.out ((ho.pre N.out.pre).pre j.pre) j.idn R U V Z0);have A:=hide j;clear D j;go_wp2_with fail;refine Z.out.mono ?_;rintro e w3 ⟨T3,n3,S3,rfl,L,q,ac,F,J⟩;have K:=z.out.grown J F Z0;have Y:=hide (yA K (s:=alg) Z0 n1 n3);rw [L.1,((N.out.idn.pre A.out.pre).pre q).1] at Y;have O:=hide q;clear K F L q;go_wp2_with fail;refine Y.out.mono ?_;rintro e w4 ⟨T4,n4,S4,rfl,r,P,Q⟩;go_wp2_with fail;go_ret;exact ⟨T4,n4,S4,rfl,r.idn,N.out.pre.trans (A.out.pre.trans (O.out.trans r.pre)),by have:=r.len;omega,P,G.trans (I.trans (J.trans Q))⟩
end
end Go.Proofs.YtnhekaepgpbijaaGreatDoor
