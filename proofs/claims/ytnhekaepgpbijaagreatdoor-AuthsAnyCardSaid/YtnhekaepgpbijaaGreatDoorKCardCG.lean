/- Several of my texts in one: MakeA, Rdr, EncA, Nam, PayM, CfA, CfB, CfC, Card, CardC, CardS, Hand. -/
import Derived.Test.YtnhekaepgpbijaaGreatDoorKAli
import Derived.Test.YtnhekaepgpbijaaGreatDoorKParseAG
import Derived.Test.YtnhekaepgpbijaaGreatDoorKSortAG
import Derived.Test.YtnhekaepgpbijaaGreatDoorKChnG
import Derived.Test.YtnhekaepgpbijaaGreatDoorKKxPGG
import Derived.Lib.SplitLaws
import Derived.Test.YtnhekaepgpbijaaGreatDoorCards
import Derived.Test.YtnhekaepgpbijaaGreatDoorTie
import Derived.Lib.LaidTab
import Derived.Stop.LaidErr
import Derived.Lay
import Derived.SevenTiedAt
import Derived.LaidHandle
import Derived.MakeChecks
import Derived.Lib.LaidU8
import Derived.Handed
import Derived.Shelf.Vars
import Derived.Test.YtnhekaepgpbijaaGreatDoorKAsG
set_option linter.unusedVariables false
set_option linter.unusedSimpArgs false
set_option maxHeartbeats 40000000
set_option maxRecDepth 100000
namespace Go.Proofs.YtnhekaepgpbijaaGreatDoor
open Go.Proofs.Tryz Go.RowKit Go.ChangeShapes Go.WideShapes Go.Sort
variable {b:Nat} {s:ByteArray} {av:Value} {ns:List Int} {l:List Tm} {m n:Int} {p_:Prop}
section
variable {B g : Nat} {w w2 : World} {T : List Tm} {S : Nat -> Prop}
theorem Done.from_ {o:Option Tm} {e:Ending} {w':World} (h:Done B w2 g T S o e w') (z:Below w.heap.size w w2):Done B w g T S o e w':=by
 obtain ⟨p,n,j,q,r,u,v⟩:=h;exact ⟨p,n,j,q,r,u,(Grown.of_below z).trans v⟩
structure Use (B:Nat) (w:World) (g:Nat) (T:List Tm) (S:Nat->Prop):Prop where
 ar:Ar B w g T S
 old:∃w0:World,Tab w0/\w0.heap.size<=B/\Below w0.heap.size w0 w
 base:B<=w.heap.size
 few:T.length<=1000000000
theorem Use.tab (h:Use B w g T S):Tab w:=by
 obtain ⟨w0,j,_,o⟩:=h.old;exact j.below o
theorem Use.below (h:Use B w g T S) (j:Below w.heap.size w w2):Use B w2 g T S:=by
 obtain ⟨w0,p,q,o⟩:=h.old;exact ⟨h.ar.below j,⟨w0,p,q,o.trans (j.mono o.size)⟩,Yg h.base j.size,h.few⟩
theorem Use.grown (h:Use B w g T S) {o:List Tm} {j:Nat->Prop} (q:Grown S w j w2) (v:Ar B w2 g o j) (z:o.length<=1000000000):Use B w2 g o j:=by
 obtain ⟨w0,r,p,u⟩:=h.old;exact ⟨v,⟨w0,r,p,u.trans ((q.below h.base h.ar.sB).mono p)⟩,Yg h.base q.size,z⟩
theorem Use.kept {row:Option Nat} (h:Use B w g T S) (k:w.grownBy w2 row) (o:∀b,row=some b->¬ S b/\B<=b):Use B w2 g T S:=by
 obtain ⟨w0,p,q,j⟩:=h.old;refine ⟨h.ar.kept k fun b e=>(o b e).1,⟨w0,p,q,?_⟩,Yg h.base k.size,h.few⟩;exact ⟨k.os.trans j.os,k.tape.trans j.tape,k.output.trans j.output,Yg j.size k.size,fun i hi=>(k.block i (Yi hi j.size) (fun e=>by have:=(o i e.symm).2;omega)).trans (j.block i hi)⟩
theorem kV (h:Use B w g T S) (j:Below w.heap.size w w2) {k a:Nat} (p:Ids w2 av ns) (q:a<4294967296) (r:b<4294967296) (hs:s.size<=1000000) (v:ns.length<=40)
  (u:∀l,jL T ns=some l->hd k a b s l.length/\kids k l) (x y z:Int) (A:x=k) (C:y=a) (D:z=b) :
  Calls prog 52 #[.pointer (some ⟨g,0,none⟩),.agg #[.int .i64 x,.int .i64 y,.int .i64 z,.string s,av]] w2 (Done B w g T S (fQ T k a b s ns)):=by
 subst A C D;have o:=h.below j;exact (RY o.ar o.tab o.base o.few p q r hs v u).mono fun e w' hd=>hd.from_ j
theorem mV:eB.size<=1000000:=Yb _
theorem qF {T:List Tm} (h:jL T []=some l):l=[]:=by
 unfold jL at h;simp only [List.map_nil,sH,Option.some.injEq] at h;exact h.symm
theorem zY {w:World} {t:TypeId} (h:Blk w b t (ns.map (Value.int .i64)).toArray) (v:Value) (c:Nat) (o:v=.slice (some ⟨b,0,none⟩) ns.length c):Ids w v ns:=by
 subst o;exact ⟨_,_,rfl,Z3,fun _=>⟨_,rfl,Yb _,h.lt,fun j u hu=>XC⟩⟩
theorem CB (w:World) (t:TypeId) (n:Int):Ids (w.alloc (.cells #[.int .i64 n] t)) (.slice (some ⟨w.heap.size,0,none⟩) 1 1) [n]:=zY (Blk.new w t _) _ 1 rfl
theorem DV (w:World) (t:TypeId) (n m:Int):Ids (w.alloc (.cells #[.int .i64 n,.int .i64 m] t)) (.slice (some ⟨w.heap.size,0,none⟩) 2 2) [n,m]:=zY (Blk.new w t _) _ 2 rfl
theorem Qb (w:World) (t:TypeId) (n m p:Int):Ids (w.alloc (.cells #[.int .i64 n,.int .i64 m,.int .i64 p] t)) (.slice (some ⟨w.heap.size,0,none⟩) 3 3) [n,m,p]:=zY (Blk.new w t _) _ 3 rfl
theorem bz {w:World} (o:Obj):Below w.heap.size w (w.alloc o):=(Below.refl _ _).alloc (Y2 _) o
theorem kU (n:Int) (w:World):Calls prog 53 #[.int .i64 n] w fun e w'=>e=.returned (.bool (okN n))/\w=w':=by
 go_enter func53,ntmps53;exact zz5d2
def okT (s:ByteArray) (m:Int):Bool:=decide (1<=s.size/\(s.size:Int)<=m)
theorem nW (s:ByteArray) (m:Int) (w:World) (hs:s.size<=9223372036854775807):Calls prog 184 #[.string s,.int .i64 m] w fun e w'=>e=.returned (.bool (okT s m))/\w=w':=by
 go_enter func184,ntmps184;go_wp2
 all_goals go_ret
 all_goals exact ⟨gD (by unfold okT;(first | (simp_all;done) | (simp_all;omega) | (rw [Bool.eq_iff_iff];simp_all;done) | (rw [Bool.eq_iff_iff];simp_all;omega))),rfl⟩
theorem uV :okT s m=true↔1<=s.size/\(s.size:Int)<=m:=by simp [okT]
theorem oU (h:Use B w g T S) (hs:s.size<=1000000) :
  Calls prog 38 #[.pointer (some ⟨g,0,none⟩),.string s] w (Done B w g T S (aM s)):=by
 have j:=hide (fun w2 (hb:Below w.heap.size w w2)=>kV h hb (k:=1) (a:=0) (b:=0) (s:=s) (av:=.slice none 0 0) (qW w2 0) Z0 Z0 hs Z3 (fun l u=>by rw [qF u];exact ⟨⟨rfl,rfl,rfl,Z0⟩,trivial⟩) 1 0 0 rfl rfl rfl);clear h;go_enter func38,ntmps38;go_wp2_with (go_at_call 52;refine (j.out _ Z4).mono ?_;rintro e w' ⟨p,n,o,rfl,hp,q,r⟩);go_ret;exact ⟨p,n,o,rfl,hp,q,r⟩
theorem zz739 (h_:p_:=by
 go_wp2_with (go_at_call 53;refine (kU _ _).mono ?_;rintro e w1 ⟨rfl,rfl⟩);go_ret;rw [Ho.out]
 exact Hn.out):p_:=h_
theorem zzcb0 (h_:p_:=by
 go_wp2_with (first
  | (go_at_call 53;refine (kU _ _).mono ?_;rintro e w1 ⟨rfl,rfl⟩)
  | (go_at_call 52;refine (HP.out _ (by exact ae)).mono ?_;rintro e w' ⟨T',n,S',rfl,hp,hA,hG⟩))
 go_ret
 exact ⟨T',_,S',rfl,hp,hA,hG⟩):p_:=h_
theorem Gt (h:Use B w g T S) (j n:Int) :
  Calls prog 245 #[.pointer (some ⟨g,0,none⟩),.int .i64 j,.int .i64 n] w (Done B w g T S (kC j n)):=by
 by_cases o:okN j=true
 ·by_cases p:okN n=true
  ·have HP:=hide (fun w2 (hb:Below w.heap.size w w2)=>kV h hb (k:=2) (a:=j.toNat) (b:=n.toNat) (s:=eB) (av:=.slice none 0 0) (qW w2 0) (by have:=iD.1 o;omega) (by have:=iD.1 p;omega) mV Z3 (fun l q=>by rw [qF q];have:=iD.1 o;have:=iD.1 p;exact ⟨⟨Z0,Z0,rfl,rfl⟩,trivial⟩) 2 j n rfl (by have:=iD.1 o;omega) (by have:=iD.1 p;omega))
   rw [DI o p] at HP;clear h;go_enter func245,ntmps245;exact zzcb0
  ·have p:okN n=false:=by simpa using p
   have Hn:=hide (Done.none_ h.ar (Below.refl _ _));have Ho:=hide (show kC j n=none by unfold kC;rw [o,p];rfl);clear h;go_enter func245,ntmps245;exact zz739
 ·have o:okN j=false:=by simpa using o
  have Hn:=hide (Done.none_ h.ar (Below.refl _ _));have Ho:=hide (show kC j n=none by unfold kC;rw [o];rfl);clear h;go_enter func245,ntmps245;exact zz739
theorem Dk (h:Use B w g T S) (j:Int) :
  Calls prog 15 #[.pointer (some ⟨g,0,none⟩),.int .i64 j] w (Done B w g T S (lh j)):=by
 by_cases o:okN j=true
 ·have HP:=hide (fun w2 (hb:Below w.heap.size w w2)=>kV h hb (k:=3) (a:=j.toNat) (b:=0) (s:=eB) (av:=.slice none 0 0) (qW w2 0) (by have:=iD.1 o;omega) Z0 mV Z3 (fun l p=>by rw [qF p];have:=iD.1 o;exact ⟨⟨Z0,rfl,rfl,rfl⟩,trivial⟩) 3 j 0 rfl (by have:=iD.1 o;omega) rfl)
  rw [Jj o] at HP;clear h;go_enter func15,ntmps15;exact zzcb0
 ·have o:okN j=false:=by simpa using o
  have Hn:=hide (Done.none_ h.ar (Below.refl _ _));have Ho:=hide (show lh j=none by unfold lh;rw [o];rfl);clear h;go_enter func15,ntmps15;exact zz739
theorem kX (T:List Tm) (n k:Int):isK T n k=nK (arg T n) k:=rfl
theorem CZ {T:List Tm} (h:jL T [n]=some l):∃t,arg T n=some t/\l=[t]:=by
 unfold jL at h;simp only [List.map_cons,List.map_nil] at h
 cases e:arg T n with
 | none=>rw [e] at h;cases h
 | some t=>rw [e] at h;simp only [sH,Option.some.injEq] at h;exact ⟨t,rfl,h.symm⟩
theorem MW {T:List Tm} (h:jL T [n,m]=some l):∃t u,arg T n=some t/\l=[t,u]:=by
 unfold jL at h;simp only [List.map_cons,List.map_nil] at h
 cases e:arg T n with
 | none=>rw [e] at h;cases h
 | some t=>cases j:arg T m with
  | none=>rw [e,j] at h;cases h
  | some u=>rw [e,j] at h;simp only [sH,Option.some.injEq] at h;exact ⟨t,u,rfl,h.symm⟩
theorem Cz (h:Use B w g T S) (n:Int) :
  Calls prog 14 #[.pointer (some ⟨g,0,none⟩),.int .i64 n] w (Done B w g T S (pI (arg T n))):=by
 have q:=hide (uN h.ar n 3)
 cases j:isK T n 3 with
 | true =>
  rw [j] at q;rw [kX] at j;have o:=h.ar.ok
  have r:=hide (fun w2 (hb:Below w.heap.size w w2) (av:Value) (hI:Ids w2 av [n])=>kV h hb (k:=4) (a:=0) (b:=0) (s:=eB) hI Z0 Z0 mV Z3 (fun l F=>by
   obtain ⟨t,G,rfl⟩:=CZ F;obtain ⟨I,p,hk⟩:=jk (k:=3) j;rw [G] at p;cases p
   exact ⟨⟨rfl,rfl,rfl,rfl⟩,Xg⟩) 4 0 0 rfl rfl rfl)
  rw [KS o j] at r;clear h j o;go_enter func14,ntmps14
  go_wp2_with (first
   | (go_at_call 51;refine q.out.mono ?_;rintro e w1 ⟨rfl,rfl⟩)
   | (go_at_call 52;refine (r.out _ Z4 _ (CB _ _ _)).mono ?_;rintro e w' ⟨A,n,z,rfl,hp,C,D⟩))
  go_ret;exact ⟨A,_,z,rfl,hp,C,D⟩
 | false =>
  rw [j] at q;rw [kX] at j;have u:=hide (Done.none_ h.ar (Below.refl _ _));have v:=hide (IP j);clear h j;go_enter func14,ntmps14;go_wp2_with (go_at_call 51;refine q.out.mono ?_;rintro e w1 ⟨rfl,rfl⟩);go_ret;rw [v.out];exact u.out
theorem Nq (h:okT s 2100=false):pK s=none:=by
 unfold pK;rw [Y5];rintro ⟨j,o⟩;have:okT s 2100=true:=uV.2 ⟨j,Z0⟩;rw [this] at h;cases h
theorem zzf6b (h_:p_:=by
 go_wp2_with (go_at_call 184;refine (nW _ _ _ hs).mono ?_;rintro e w1 ⟨rfl,rfl⟩);go_ret;rw [Ho.out]
 exact Hn.out):p_:=h_
theorem Jz (h:Use B w g T S) (hs:s.size<=9223372036854775807) :
  Calls prog 243 #[.pointer (some ⟨g,0,none⟩),.string s] w (Done B w g T S (pK s)):=by
 cases o:okT s 2100 with
 | true =>
  have p:=uV.1 o;have j:=hide (fun w2 (hb:Below w.heap.size w w2)=>kV h hb (k:=5) (a:=0) (b:=0) (s:=s) (av:=.slice none 0 0) (qW w2 0) Z0 Z0 Z0 Z3 (fun l z=>by rw [qF z];exact ⟨⟨rfl,rfl,Z3,Z0,Z0⟩,Z3,List.Pairwise.nil⟩) 5 0 0 rfl rfl rfl);rw [GI ⟨p.1,Z0⟩] at j;clear h p;go_enter func243,ntmps243
  go_wp2_with (first
   | (go_at_call 184;refine (nW _ _ _ hs).mono ?_;rintro e w1 ⟨rfl,rfl⟩)
   | (go_at_call 52;refine (j.out _ Z4).mono ?_;rintro e w' ⟨r,n,q,rfl,hp,u,v⟩))
  go_ret;exact ⟨r,_,q,rfl,hp,u,v⟩
 | false =>
  have Hn:=hide (Done.none_ h.ar (Below.refl _ _));have Ho:=hide (Nq o);clear h;go_enter func243,ntmps243;exact zzf6b
theorem yA (h:Use B w g T S) (hs:s.size<=9223372036854775807) (n m:Int) :
  Calls prog 102 #[.pointer (some ⟨g,0,none⟩),.string s,.int .i64 n,.int .i64 m] w (Done B w g T S (jR s (arg T n) (arg T m))):=by
 have r:=hide (uN h.ar n 3)
 cases v:okT s 64 with
 | false =>
  have Hn:=hide (Done.none_ h.ar (Below.refl _ _))
  have Ho:=hide (qJ (alg:=s) (o:=arg T n) (p:=arg T m) (.inl (fun I=>by
   have:okT s 64=true:=uV.2 ⟨I.1,Z0⟩;rw [this] at v
   cases v)))
  clear h;go_enter func102,ntmps102;exact zzf6b
 | true =>
 have z:=uV.1 v
 cases j:isK T n 3 with
 | true =>
  rw [j] at r;rw [kX] at j
  have A:=hide (fun w2 (hb:Below w.heap.size w w2) (av:Value) (hI:Ids w2 av [n,m])=>kV h hb (k:=6) (a:=0) (b:=0) (s:=s) hI Z0 Z0 Z0 Z3 (fun l J=>by
   obtain ⟨t,u,K,rfl⟩:=MW J;obtain ⟨L,q,hk⟩:=jk (k:=3) j;rw [K] at q;cases q
   exact ⟨⟨rfl,rfl,rfl,Z0,Z0⟩,Xg⟩) 6 0 0 rfl rfl rfl)
  rw [FN (alg:=s) ⟨z.1,Z0⟩ j] at A;clear h j z;go_enter func102,ntmps102
  go_wp2_with (first
   | (go_at_call 184;refine (nW _ _ _ hs).mono ?_;rintro e w1 ⟨rfl,rfl⟩)
   | (go_at_call 51;refine r.out.mono ?_;rintro e w1 ⟨rfl,rfl⟩)
   | (go_at_call 52;refine (A.out _ Z4 _ (DV _ _ _ _)).mono ?_;rintro e w' ⟨D,n,C,rfl,hp,F,G⟩))
  go_ret;exact ⟨D,_,C,rfl,hp,F,G⟩
 | false =>
  rw [j] at r;rw [kX] at j;have Hn:=hide (Done.none_ h.ar (Below.refl _ _));have Ho:=hide (qJ (alg:=s) (o:=arg T n) (p:=arg T m) (.inr j));clear h j z;go_enter func102,ntmps102
  go_wp2_with (first
   | (go_at_call 184;refine (nW _ _ _ hs).mono ?_;rintro e w1 ⟨rfl,rfl⟩)
   | (go_at_call 51;refine r.out.mono ?_;rintro e w1 ⟨rfl,rfl⟩))
  go_ret;rw [Ho.out];exact Hn.out
theorem yF (h:Use B w g T S) (n:Int) :
  Calls prog 39 #[.pointer (some ⟨g,0,none⟩),.int .i64 n] w (Done B w g T S (mi (arg T n))):=by
 have j:=hide (fun w2 (hb:Below w.heap.size w w2) (av:Value) (hI:Ids w2 av [n])=>kV h hb (k:=7) (a:=0) (b:=0) (s:=eB) hI Z0 Z0 mV Z3 (fun l u=>by
  obtain ⟨t,v,rfl⟩:=CZ u
  exact ⟨⟨rfl,rfl,rfl,rfl⟩,trivial⟩) 7 0 0 rfl rfl rfl)
 rw [Ef] at j;clear h;go_enter func39,ntmps39;go_wp2_with (go_at_call 52;refine (j.out _ Z4 _ (CB _ _ _)).mono ?_;rintro e w' ⟨p,n,o,rfl,hp,q,r⟩);go_ret;exact ⟨p,_,o,rfl,hp,q,r⟩
theorem DC (h:Use B w g T S) (c:Nat) (C:c<256) (n m p:Int) :
  Calls prog 174 #[.pointer (some ⟨g,0,none⟩),.int .u8 c,.int .i64 n,.int .i64 m,.int .i64 p] w (Done B w g T S (qK c (arg T n) (arg T m) (arg T p))):=by
 have j:=hide (fun w2 (hb:Below w.heap.size w w2) (av:Value) (hI:Ids w2 av [n,m,p])=>kV h hb (k:=8) (a:=0) (b:=c) (s:=eB) hI Z0 Z0 mV Z3 (fun l A=>by
  have:=vQ A
  exact ⟨⟨rfl,Z0,this,rfl⟩,trivial⟩) 8 0 c rfl rfl rfl)
 rw [Av] at j;clear h;have z:(c:Int)<256:=Z0;have v:(0:Int)<=c:=Z0;go_enter func174,ntmps174;go_wp2_with (go_at_call 52;refine (j.out _ Z4 _ (Qb _ _ _ _ _)).mono ?_;rintro e w' ⟨q,n,o,rfl,hp,r,u⟩);go_ret;exact ⟨q,_,o,rfl,hp,r,u⟩
theorem JF (h:Use B w g T S) (c:Nat) (A:c<4294967296) (n m:Int) :
  Calls prog 177 #[.pointer (some ⟨g,0,none⟩),.int .i64 n,.int .u32 c,.int .i64 m] w (Done B w g T S (Dv c (arg T n) (arg T m))):=by
 have j:=hide (fun w2 (hb:Below w.heap.size w w2) (av:Value) (hI:Ids w2 av [n,m])=>kV h hb (k:=9) (a:=0) (b:=c) (s:=eB) hI Z0 Z0 mV Z3 (fun l z=>by
  have:=vQ z
  exact ⟨⟨rfl,Z0,this,rfl⟩,trivial⟩) 9 0 c rfl rfl rfl)
 rw [Em] at j;clear h;have v:(c:Int)<4294967296:=Z0;have u:(0:Int)<=c:=Z0;go_enter func177,ntmps177;go_wp2_with (go_at_call 52;refine (j.out _ Z4 _ (DV _ _ _ _)).mono ?_;rintro e w' ⟨p,n,o,rfl,hp,q,r⟩);go_ret;exact ⟨p,_,o,rfl,hp,q,r⟩
theorem zB (h:Use B w g T S) (C:Ids w av ns) (F:ns.length<=1000000000) :
  Calls prog 179 #[.pointer (some ⟨g,0,none⟩),av] w (Done B w g T S (gB (ns.map (arg T)))):=by
 obtain ⟨A,c,rfl,j⟩:=C
 by_cases h1:ns.length<=32
 ·have o:=hide (fun w2 (hb:Below w.heap.size w w2)=>kV h hb (k:=10) (a:=0) (b:=0) (s:=eB) (Ids.below ⟨A,c,rfl,j⟩ hb) Z0 Z0 mV Z0 (fun l D=>by
   have:=vQ D
   exact ⟨⟨rfl,rfl,Z0,rfl⟩,trivial⟩) 10 0 0 rfl rfl rfl)
  rw [EX h1] at o;clear h j;have hi:¬ (32:Int)<ns.length:=Z0;go_enter func179,ntmps179;go_wp2_with (go_at_call 52;refine (o.out _ Z4).mono ?_;rintro e w' ⟨u,n,r,rfl,hp,v,z⟩);go_ret;exact ⟨u,_,r,rfl,hp,v,z⟩
 ·have p:=hide (Done.none_ h.ar (Below.refl _ _))
  have q:=hide (xu (l:=ns.map (arg T)) XQ);clear h j;have hi:(32:Int)<ns.length:=Z0;go_enter func179,ntmps179;go_wp2;go_ret;rw [q.out];exact p.out
end
end Go.Proofs.YtnhekaepgpbijaaGreatDoor

namespace Go.Proofs.YtnhekaepgpbijaaGreatDoor
open Go.Proofs.Tryz Go.RowKit Go.ChangeShapes Go.WideShapes
variable {n:Nat} {js:List Nat} {l:List Tm}
theorem Sj {w:World} {b:Nat} {v:Value} (h:w.ownsRow b 39 1 v n ((js.map Int.ofNat).map (Value.int .i64))) (D:n=js.length) (C:0<n):∃gb cap,v=.slice (some ⟨gb,0,none⟩) n cap/\b<=gb/\kD w w gb js:=by
 rcases h.2 with ⟨_,o⟩ | ⟨gb,cap,j,rfl,q,r,z,_,_,A⟩
 ·omega
 ·refine ⟨gb,cap,rfl,q,az _ _,j,r,fun k v p=>?_⟩
  have o:(j.toList.take (n*1))[k]?=some (.int .i64 v):=by
   rw [A];simp [p]
  have u:=(Yx.1 p).1;rw [List.getElem?_take_of_lt Z0] at o;simpa using o
theorem kD.ids {w0 w:World} {gb:Nat} {o:List Nat} (h:kD w0 w gb o) {cap:Nat} (q:n=o.length):Ids w (.slice (some ⟨gb,0,none⟩) n cap) (o.map Int.ofNat):=by
 subst q;refine ⟨some ⟨gb,0,none⟩,cap,Z3,Z3,fun _=>⟨_,rfl,Yb _,h.lt,fun j u p=>?_⟩⟩;rw [cu];simp only [Yt,Option.map_eq_some_iff] at p;obtain ⟨y,⟨z,r,rfl⟩,rfl⟩:=p;exact h.cell r
theorem Jm {T:List Tm} (h:eF T l js):jL T (js.map Int.ofNat)=some l:=by
 unfold jL;rw [List.map_map]
 have:js.map (arg T ∘ Int.ofNat)=l.map some:=by
  rw [<-h];exact List.map_congr_left fun j _=>Be
 rw [this,oI]
theorem mQ {t:Tm} (h:good t) (o:t.k=5):hd 5 0 0 t.s t.l.length/\(∀x∈t.l,x.k=2)/\t.l.Pairwise tle/\eH t.l:=by
 obtain ⟨k,a,b,s,l⟩:=t;simp only [Tm.k] at o;subst o;simp only [good,hd,kids,true_and] at h;obtain ⟨⟨_,_,p⟩,j,q⟩:=h;exact ⟨⟨rfl,rfl,p⟩,j.1,j.2,q⟩
theorem BD (h:eH l) (j:∀x∈l,x.k=2):(encs l).length=9*l.length:=by
 induction l with
 | nil=>rfl
 | cons t l ih =>
  simp only [eH] at h;simp only [encs,Ya,Yv];rw [KF h.1 (j t Z3),ih h.2 fun x o=>j x (by simp [o])];omega
theorem IZ {o p:Option Tm} (h:nK o 5=false\/nK p 2=false):Bu o p=none:=by
 cases o with
 | none=>rfl
 | some s=>cases p with
  | none=>rfl
  | some x =>
   show (if _ then _ else none)=none;rw [Y5];rintro ⟨j,q,_⟩;rcases h with h | h
   ·exact qB (k:=5) h rfl j
   ·exact qB (k:=2) h rfl q
theorem Rm:(prog.info? 39).map (fun i=>(i.zero,i.size,i.bytes))=some (some (.int .i64 0),1,8):=Z1
section
variable {B g : Nat} {w : World} {T : List Tm} {S : Nat -> Prop}
theorem Kk (r:AOK T) {s x:Tm} (hs:s∈T) (D:x∈T) (v:s.k=5) (kx:x.k=2) (h8:s.l.length<8) {p:List Nat} (C:eF T (ins x s.l) p) :
  fQ T 5 0 0 s.s (p.map Int.ofNat)=Bu (some s) (some x)/\∀l,jL T (p.map Int.ofNat)=some l->hd 5 0 0 s.s l.length/\kids 5 l:=by
 have gs:=mQ (r.fine s hs).1 v;have A:=(r.fine x D).1;have e:=Jm C
 have j:∀z∈ins x s.l,z.k=2:=fun z h=>by
  rcases AJ.1 h with rfl | h
  ·exact kx
  ·exact gs.2.1 z h
 have o:eH (ins x s.l):=(gT _).2 fun z h=>by
  rcases AJ.1 h with rfl | h
  ·exact A
  ·exact (gT _).1 gs.2.2.2 z h
 have q:=gs.1;simp only [hd] at q;constructor
 ·unfold fQ
  rw [e];show lim _=if _ then _ else none;rw [Y6 ⟨v,kx,h8⟩,gV];simp only [enc,Ya,BD o j,uT,head,mid,Yv,bM,aC];omega
 ·intro l u
  rw [e] at u;cases u
  rw [uT];exact ⟨⟨rfl,rfl,Z0,q.2.2.2⟩,j,wK gs.2.2.1⟩
theorem zzef1 {p_:Prop} (h_:p_:=by
 go_enter func244,ntmps244
 go_wp2_with (first
  | (go_at_call 51;with_reducible refine HI.out.mono ?_;rintro e w1 ⟨rfl,rfl⟩)
  | (go_at_call 51;with_reducible refine HJ.out.mono ?_;rintro e w1 ⟨rfl,rfl⟩))
 go_ret;rw [Ho.out]
 exact Hn.out):p_:=h_
theorem Oq (h:Use B w g T S) (n m:Int) :
  Calls prog 244 #[.pointer (some ⟨g,0,none⟩),.int .i64 n,.int .i64 m] w (Done B w g T S (Bu (arg T n) (arg T m))):=by
 have HI:=hide (uN h.ar n 5);have HJ:=hide (uN h.ar m 2)
 cases r:isK T n 5 with
 | false =>
  rw [r] at HI;have Hn:=hide (Done.none_ h.ar (Below.refl _ _));have Ho:=hide (IZ (o:=arg T n) (p:=arg T m) (.inl (by rw [<-kX];exact r)));clear h r;go_enter func244,ntmps244;go_wp2_with (go_at_call 51;refine HI.out.mono ?_;rintro e w1 ⟨rfl,rfl⟩);go_ret;rw [Ho.out];exact Hn.out
 | true =>
 rw [r] at HI
 cases G:isK T m 2 with
 | false =>
  rw [G] at HJ;have Hn:=hide (Done.none_ h.ar (Below.refl _ _));have Ho:=hide (IZ (o:=arg T n) (p:=arg T m) (.inr (by rw [<-kX];exact G)));clear h r G;exact zzef1
 | true =>
 rw [G] at HJ;rw [kX] at r G;obtain ⟨s,hs,ks⟩:=jk (k:=5) r;obtain ⟨x,hx,kx⟩:=jk (k:=2) G;rw [hs,hx];obtain ⟨i,rfl,hi⟩:=kM hs;obtain ⟨j,rfl,hj⟩:=kM hx;have hA:=h.ar;obtain ⟨nv,sv,mb,aF,D,z⟩:=hA;obtain ⟨nb,cap,av,js,rfl,a6,c0,c1,c2,c3,c4,ha,hI⟩:=z.cells hi;have h0:w.cell? ⟨g,0,none⟩=some (.slice (some ⟨nb,0,none⟩) T.length cap):=z.blk.cell 0;have a5:=(Yx.1 hi).1;have a4:(i:Int)<T.length:=Z0;have a3:(0:Int)<=i:=Z0;have O:=ha.len;have h8:=Lm z.ok (Yo hi) ks;obtain ⟨A,c,rfl,N⟩:=hI
 have ac:Hid (Ids w (.slice A js.length c) (js.map Int.ofNat)):=⟨A,c,Z3,N⟩
 simp only [Yd] at c4
 by_cases hl8:s.l.length<8
 ·have J:Srt T s.l js x j:=⟨ha,hj,(mQ (z.ok.fine s (Yo hi)).1 ks).2.1,kx,(mQ (z.ok.fine s (Yo hi)).1 ks).2.2.1⟩
  have HS:=hide J;have HX:=hide z;have U:=hide h;have Hi:=hide hi;have Hj:=hide hj;have af:=hide O;have Ks:=hide ks;have Kx:=hide kx;clear ks kx;have aa:(js.length:Int)<8:=Z0;have aE:js.length<=8:=Z0;have a0:=z.blk.lt;have HC:=hide (fun w2 (hb:Below w.heap.size w w2)=>sO (w:=w2) (ac.out.below hb) (by simp;omega));simp only [Yd] at HC;obtain ⟨iI,aq,am,an,ao⟩:=info_parts Rm;clear h r G hs hx hi hj z ha N O J h8;go_enter func244,ntmps244
  go_wp2_with (first
   | (go_at_call 51;with_reducible refine HI.out.mono ?_;rintro e w1 ⟨rfl,rfl⟩)
   | (go_at_call 51;with_reducible refine HJ.out.mono ?_;rintro e w1 ⟨rfl,rfl⟩)
   | (go_at_call 100;refine (HC.out _ Z4).mono ?_;rintro e w1 ⟨v',rfl,q,C⟩;obtain ⟨A1,d1,rfl⟩:=iH q;have a7:=C.size)
   | (at_builtin;refine aB _ rfl (.tmp 38) (.tmp 40) _ rfl w.heap.size 39 iI (.int .i64 0) 1 8 underlying124 aq am an ao rfl Z2 (.slice A1 js.length d1) js.length ((js.map Int.ofNat).map (Value.int .i64)) rfl (q.alloc _) _ (some ⟨w1.heap.size,0,none⟩) 1 1 [.int .i64 j] rfl (eD (Blk.new w1 _ _) rfl) Zd Ze Z0 (by simp;omega) ?_;intro v2 w2 u K Z;have ab:=fun i hi=>(q.lt i hi).1;clear q))
  have F:Below w.heap.size w w2:=(C.alloc C.size _).grown K (by simp;omega) ab;have v:w2.ownsRow w.heap.size 39 1 v2 (js.length+1) (((js++[j]).map Int.ofNat).map (Value.int .i64)):=by simpa using u
  obtain ⟨gb,V,rfl,ap,I⟩:=Sj v Z3 Z0
  have Y:¬ S gb:=fun hc=>by
   have:=U.out.ar.sL gb hc;omega
  refine (KO (U.out.ar.below F) HS.out rfl Z0 Y I).mono ?_;rintro e w3 ⟨rfl,vs,hf,R⟩;have hb3:Below w.heap.size w w3:=FO F R.1 ap F.size
  have Q:vs.length=js.length+1:=by
   have r:vs.length=(ins x s.l).length:=hf.len;rw [r,uT,af.out]
  have X:Ids w3 (.slice (some ⟨gb,0,none⟩) (js.length+1) V) (vs.map Int.ofNat):=R.ids Q.symm
  have aw:s.s.size<=1000000:=by
   have r:=(mQ (U.out.ar.ok.fine s (Yo Hi.out)).1 Ks.out).1;simp only [hd] at r;omega
  have P:=Kk U.out.ar.ok (Yo Hi.out) (Yo Hj.out) Ks.out Kx.out hl8 hf;have L:(vs.map Int.ofNat).length<=40:=by rw [Yd,Q];omega
  have HP:=hide (kV U.out hb3 X (k:=5) (a:=0) (b:=0) (s:=s.s) Z0 Z0 aw L P.2 5 0 0 rfl rfl rfl);have ad:=hide P.1;have d0:=Ex hb3 h0;have d3:=Ex hb3 c3;clear P X R hf Q L F u v K Z I h0 c0 c1 c2 c3 c4 ab C;go_wp2_with (go_at_call 52;refine HP.out.mono ?_;rintro e w4 ⟨T',n',S',rfl,hp,hA,hG⟩);go_ret;rw [<-ad.out];exact ⟨T',_,S',rfl,hp,hA,hG⟩
 ·have Hn:=hide (Done.none_ h.ar (Below.refl _ _))
  have Ho:=hide (show Bu (some s) (some x)=none by
   show (if _ then _ else none)=none
   rw [Y5 (fun hc=>hl8 hc.2.2)])
  have aa:¬ (js.length:Int)<8:=Z0;clear h r G hs hx hi hj z ha N O h8;exact zzef1
end
def TC (w:World) (e:Ending) (w':World):Prop:=∃g S,e=.returned (.pointer (some ⟨g,0,none⟩))/\Ar w.heap.size w' g [] S/\Below w.heap.size w w'
theorem VN (w:World):TC w (.returned (.pointer (some ⟨w.heap.size+1,0,none⟩))) ((w.alloc (.map #[] 0)).alloc (.cells #[.slice none 0 0,.slice none 0 0,.map (some w.heap.size)] 106)):=by
 refine ⟨_,fun i=>i=w.heap.size\/i=w.heap.size+1,rfl,⟨.slice none 0 0,.slice none 0 0,w.heap.size,[],.map [],?_⟩,(bz _).alloc Z3 _⟩;have h:=Blk.new (w.alloc (.map #[] 0)) 106 #[.slice none 0 0,.slice none 0 0,.map (some w.heap.size)];simp only [World.size_alloc] at h;have j:=(World.ownsMap_made (H:=Unit) w prog 184 (plainElem prog 39)).alloc (.cells #[.slice none 0 0,.slice none 0 0,.map (some w.heap.size)] 106);refine ⟨R6,h,World.ownsRow_nil _ _ _ _,rfl,fun i t us hi=>by simp at hi,World.ownsRow_nil _ _ _ _,j,RN,.inr rfl,.inl rfl,fun i hi=>by simp [Value.ownBlock] at hi,fun i hi=>by simp [Value.ownBlock] at hi,?_,?_⟩
 ·rintro i (rfl | rfl) <;> omega
 ·rintro i (rfl | rfl) <;> first | (simp;done) | (simp;omega)
theorem zS (w:World):Calls prog 8 #[] w (TC w):=by
 have h:=@run_makeMap prog;go_enter func8,ntmps8;go_wp2;go_ret;exact VN w
end Go.Proofs.YtnhekaepgpbijaaGreatDoor
namespace Go.Proofs.YtnhekaepgpbijaaGreatDoor
open Go.Proofs.Tryz Go.RowKit Go.ChangeShapes Go.WideShapes Go.Sort
variable {l:List UInt8} {n:Nat}
def Bk (w:World) (b g:Nat) (s:ByteArray) (p:Nat):Prop:=Blk w b 178 #[.pointer (some ⟨g,0,none⟩),.string s,.int .i64 p]
section
variable {w wr : World} {b g : Nat} {s : ByteArray} {p : Nat}
theorem Bk.set_ (h:Bk w b g s p) (q:Nat):Bk (w.setCell ⟨b,2,none⟩ (.int .i64 q)) b g s q:=by
 have:=Blk.set_ (cs:=#[.pointer (some ⟨g,0,none⟩),.string s,.int .i64 p]) h 2 (.int .i64 q);simpa [Bk] using this
theorem Bk.drewN (h:Bk w b g s p) (n:Nat):Bk (w.drewN n) b g s p:=Blk.below h (below_drewN (Below.refl _ _) n) (Blk.lt h)
def B1 (s:ByteArray) (p:Nat) (b g:Nat) (w:World) (e:Ending) (w':World):Prop :=
 ∃p',(if h:p<s.size then e=.returned (.tuple #[.int .u8 s[p].toNat,.bool true])/\p'=p+1 else e=.returned (.tuple #[.int .u8 0,.bool false])/\p'=p)/\Bk w' b g s p'/\w.grownBy w' (some b)
theorem Lj (h:Bk w b g s p) (hs:s.size<=1000000) (hp:p<=s.size):Calls prog 166 #[.pointer (some ⟨b,0,none⟩)] w (B1 s p b g w):=by
 have H:=hide h;have c1:w.cell? ⟨b,1,none⟩=some (.string s):=Blk.cell h 1;have c2:w.cell? ⟨b,2,none⟩=some (.int .i64 p):=Blk.cell h 2;have f2:=Blk.frozen h 2;clear h
 by_cases j:p<s.size
 ·have o:¬ (s.size:Int)<=p:=by omega
  have w1:IntKind.i64.wrap ((p:Int)+1)=((p+1:Nat):Int):=Zb;have q:(w.setCell ⟨b,2,none⟩ (.int .i64 ((p+1:Nat):Int))).cell? ⟨b,1,none⟩=some (.string s):=Blk.cell (H.out.set_ (p+1)) 1;have r:(w.setCell ⟨b,2,none⟩ (.int .i64 ((p+1:Nat):Int))).cell? ⟨b,2,none⟩=some (.int .i64 ((p+1:Nat):Int)):=Blk.cell (H.out.set_ (p+1)) 2;go_enter func166,ntmps166;go_wp2;go_quiet (fail);go_wp2;go_quiet (fail);go_wp2;go_ret2;exact ⟨p+1,by rw [dif_pos j];exact ⟨rfl,rfl⟩,((H.out.drewN _).set_ (p+1)).drewN _,aL (ah (aL (az _ _) _) (.inl rfl) _) _⟩
 ·have o:(s.size:Int)<=p:=by omega
  go_enter func166,ntmps166;go_wp2;go_quiet (fail);go_wp2;go_ret2;exact ⟨p,by rw [dif_neg j];exact ⟨rfl,rfl⟩,H.out.drewN _,aL (az _ _) _⟩
theorem AB (h:Bk w b g s p) (hs:s.size<=1000000) (hp:p<=s.size) (j:s.size<p+4):Calls prog 175 #[.pointer (some ⟨b,0,none⟩)] w fun e w'=>e=.returned (.tuple #[.int .i64 0,.bool false])/\Bk w' b g s p/\w.grownBy w' (some b):=by
 have H:=hide h;have c1:w.cell? ⟨b,1,none⟩=some (.string s):=Blk.cell h 1;have c2:w.cell? ⟨b,2,none⟩=some (.int .i64 p):=Blk.cell h 2;clear h;have hi:((s.size:Int) - (p:Int))<4:=Z0;go_enter func175,ntmps175;go_wp2;go_quiet (fail);go_wp2;go_ret2;exact ⟨rfl,H.out.drewN _,aL (az _ _) _⟩
def nbP (l:List UInt8) (i:Nat):Nat:=(l.take i).foldl (fun n c=>n*256+c.toNat) 0
theorem Iu {i:Nat} {c:UInt8} (h:l[i]?=some c):nbP l (i+1)=nbP l i*256+c.toNat:=by
 unfold nbP;rw [List.take_add_one,h];simp
theorem Vq (l:List UInt8) (i:Nat):nbP l i<256 ^ i:=by
 induction i with
 | zero=>simp [nbP]
 | succ i ih =>
  cases h:l[i]? with
  | none =>
   have:nbP l (i+1)=nbP l i:=by unfold nbP;rw [List.take_add_one,h];simp
   rw [this,Nat.pow_succ];omega
  | some c =>
   rw [Iu h,Nat.pow_succ];have:=c.toNat_lt;omega
theorem Rh (h:4<=l.length):nbP l 4=n4 l:=by
 match l,h with
 | x :: y :: z :: u :: r,_ =>
  simp only [nbP,List.take_succ_cons,List.take_zero,List.foldl_cons,List.foldl_nil,n4];omega
theorem Ut {c:Nat} (r:n<16777216) (q:c<256):bits .or .i64 ((n*256:Nat):Int) (c:Int)=((n*256+c:Nat):Int):=by
 have h:=bits_join .i64 63 Z2 (fun x j o=>Zb) 8 ((n*256:Nat):Int) (c:Int) Z0 Z0 Z0 Z0 Z0 Z0;rw [h];omega
theorem nT (h:Bk w b g s p) (hs:s.size<=1000000) (S:p+4<=s.size):Calls prog 175 #[.pointer (some ⟨b,0,none⟩)] w fun e w'=>e=.returned (.tuple #[.int .i64 (n4 (s.data.toList.drop p)),.bool true])/\Bk w' b g s (p+4)/\w.grownBy w' (some b):=by
 have H:=hide h;have c1:w.cell? ⟨b,1,none⟩=some (.string s):=Blk.cell h 1;have c2:w.cell? ⟨b,2,none⟩=some (.int .i64 p):=Blk.cell h 2;clear h;have hi:¬ ((s.size:Int) - (p:Int))<4:=Z0;go_enter func175,ntmps175;go_wp2;go_quiet (fail);go_wp2_with fail
 go_loopw [16,4] (fun z O wr=>∃i:Nat,z=.int .i64 i/\i<=4/\O=.int .i64 (nbP (s.data.toList.drop p) i)/\Hid (Bk wr b g s (p+i))/\Hid (w.grownBy wr (some b))) (fun z _ _=>4 - (intOf z).toNat)
 case atStart=>exact ⟨0,rfl,Z0,rfl,hide (H.out.drewN _),hide (aL (az _ _) _)⟩
 case round =>
  obtain ⟨i,rfl,I,rfl,j,A⟩:=hrel
  by_cases R:i<4
  ·have J:(i:Int)<4:=by omega
   obtain ⟨q,u⟩:∃q,q=p+i:=⟨_,rfl⟩
   rw [<-u] at j;have P:wr.cell? ⟨b,1,none⟩=some (.string s):=Blk.cell j.out 1;have Q:wr.cell? ⟨b,2,none⟩=some (.int .i64 q):=Blk.cell j.out 2;have f2:=Blk.frozen j.out 2;have G:=Vq (s.data.toList.drop p) i;have v:q<s.size:=Z0
   have K:256 ^ i<=16777216:=by
    obtain rfl | rfl | rfl | rfl:i=0\/i=1\/i=2\/i=3:=Z0
    all_goals decide
   have B:(s.data.toList.drop p)[i]?=some (s[q]):=by
    rw [List.getElem?_drop,<- u,Y1 (by exact v)];rfl
   have o:=hide (Iu B);have r:=s[q].toNat_lt;generalize nbP (s.data.toList.drop p) i=n at o G ⊢;have N:(q:Int)<s.size:=Z0;have L:(0:Int)<=q:=Z0;have T:IntKind.i64.wrap ((n:Int)*256)=((n*256:Nat):Int):=Zb;have U:IntKind.i64.wrap ((q:Int)+1)=((q+1:Nat):Int):=Zb;have F:=hide u;have D:=hide (Ut (n:=n) (c:=s[q].toNat) Z0 r);clear u B;go_wp2;go_quiet (fail);go_wp2;refine ⟨⟨i+1,Zr,Z0,?_,hide ?_,hide ?_⟩,Zh⟩
   ·rw [o.out,show ((n:Int)*256)=((n*256:Nat):Int) by omega,D.out]
   ·rw [<-Nat.add_assoc,<- F.out]
    exact (j.out.drewN _).set_ (q+1)
   ·exact ah (aL A.out _) (.inl rfl) _
  ·obtain rfl:i=4:=by omega
   have C:=hide (Rh (l:=s.data.toList.drop p) (by rw [Yu,aC];omega));go_wp2;go_ret2;exact ⟨by rw [C.out];rfl,j.out,A.out⟩
theorem Ej (h:Bk w b g s p) (hs:s.size<=1000000) (hp:p<=s.size) (v:s.size<p+4):Calls prog 171 #[.pointer (some ⟨b,0,none⟩)] w fun e w'=>e=.returned (.tuple #[.string ⟨#[]⟩,.bool false])/\Bk w' b g s p/\w.grownBy w' (some b):=by
 have u:=hide (AB h hs hp v);clear h;go_enter func171,ntmps171;go_wp2_with (go_at_call 175;refine u.out.mono ?_;rintro e w1 ⟨rfl,o,q⟩);refine wp_region_quiet_lit Z1 Z1 ?_
 repeat (first | go_big_quiet_skip | quiet_step (fail))
 refine wpQuiet_nil ?_;intro _ r;obtain ⟨nq,j⟩:=r;subst j;go_wp2;go_ret2;exact ⟨rfl,o.drewN _,aL q _⟩
theorem En (h:Bk w b g s p) (hs:s.size<=1000000) (z:n=n4 (s.data.toList.drop p)) (r:p+4<=s.size) (A:s.size<p+4+n):Calls prog 171 #[.pointer (some ⟨b,0,none⟩)] w fun e w'=>e=.returned (.tuple #[.string ⟨#[]⟩,.bool false])/\Bk w' b g s (p+4)/\w.grownBy w' (some b):=by
 have o:=hide (nT h hs r);rw [<-z] at o;have hi:(s.size:Int) - ((p+4:Nat):Int)<n:=Z0;generalize p+4=q at o hi r A ⊢;have hi2:(s.size:Int)<(n:Int)+q:=Z0;have B:(s.size:Int)<(q:Int)+n:=Z0;have C:s.size<n+q:=Z0;have v:¬ n<=s.size - q\/True:=.inr trivial;have G:IntKind.i64.wrap ((s.size:Int) - q)=(s.size:Int) - q:=Zb;clear h z r v;go_enter func171,ntmps171;go_wp2_with (go_at_call 175;refine o.out.mono ?_;rintro e w1 ⟨rfl,j,u⟩;have D:w1.cell? ⟨b,1,none⟩=some (.string s):=Blk.cell j 1;have F:w1.cell? ⟨b,2,none⟩=some (.int .i64 q):=Blk.cell j 2);go_quiet (fail);go_wp2;go_ret2;exact ⟨rfl,j.drewN _,aL u _⟩
theorem FH (h:Bk w b g s p) (hs:s.size<=1000000) (A:n=n4 (s.data.toList.drop p)) (z:p+4+n<=s.size):Calls prog 171 #[.pointer (some ⟨b,0,none⟩)] w fun e w'=>e=.returned (.tuple #[.string (bs ((s.data.toList.drop (p+4)).take n)),.bool true])/\Bk w' b g s (p+4+n)/\w.grownBy w' (some b):=by
 have r:=hide (nT h hs Z0);rw [<-A] at r;have u:=hide (show s.extract (p+4) (p+4+n)=bs ((s.data.toList.drop (p+4)).take n) by rw [AX];congr 2;omega);generalize p+4=q at r u z ⊢;have hi2:¬ (s.size:Int)<(n:Int)+q:=Z0;have B:¬ (s.size:Int)<(q:Int)+n:=Z0;have C:¬ s.size<n+q:=Z0;have hi:¬ (s.size:Int) - (q:Int)<n:=Z0;have L:IntKind.i64.wrap ((s.size:Int) - q)=(s.size:Int) - q:=Zb
 obtain ⟨q2,o⟩:∃q2,q2=q+n:=⟨_,rfl⟩
 have D:IntKind.i64.wrap ((q:Int)+n)=(q2:Int):=Zb;have F:(q:Int)+n=(q2:Int):=Z0;have G:(q2:Int) - n=(q:Int):=Z0;have b1:(0:Int)<=q:=Z0;have b2:(q:Int)<=q2:=Z0;have I:(q2:Int)<=s.size:=Z0;rw [<-o] at u z ⊢;clear h A o;go_enter func171,ntmps171;go_wp2_with (go_at_call 175;refine r.out.mono ?_;rintro e w1 ⟨rfl,j,v⟩;have J:w1.cell? ⟨b,1,none⟩=some (.string s):=Blk.cell j 1;have K:w1.cell? ⟨b,2,none⟩=some (.int .i64 q):=Blk.cell j 2;have f2:=Blk.frozen j 2);go_quiet (fail);go_wp2;go_quiet (fail);go_wp2;go_ret2;exact ⟨by rw [<-u.out];rfl,((j.drewN _).set_ q2).drewN _,aL (ah (aL v _) (.inl rfl) _) _⟩
end
end Go.Proofs.YtnhekaepgpbijaaGreatDoor
namespace Go.Proofs.YtnhekaepgpbijaaGreatDoor
open Go.Proofs.Tryz Go.RowKit Go.ChangeShapes Go.WideShapes
structure BlS (B:Nat) (S:Nat->Prop) (b:Nat) (l:List UInt8) (w:World):Prop where
 ex:∃p v,(p=.pointer none\/p=.pointer (some ⟨b,0,none⟩))/\Lib.BuilderAt 257 5 B b p (Lib.byteCells l) w/\Blk w b 257 #[p,v]/\∀i,v.ownBlock=some i->S i
 sb:S b
 sB:∀i,S i->B<=i
 sL:∀i,S i->i<w.heap.size
theorem Grown.row {j S:Nat->Prop} {w q r:World} {row:Option Nat} (h:Grown j w S q) (k:q.grownBy r row) (u:∀b,row=some b->S b):Grown j w S r :=
 ⟨k.os.trans h.os,k.tape.trans h.tape,k.output.trans h.output,Yg h.size k.size,fun i hi p=>(k.block i (Yi hi h.size) (fun e=>by
  rcases h.new i (u i e.symm) with o | o
  ·exact p o
  ·omega)).trans (h.block i hi p),h.sub,h.new⟩
section
variable {B b : Nat} {S : Nat -> Prop} {l : List UInt8} {w w' : World}
theorem BlS.below (h:BlS B S b l w) (j:Below w.heap.size w w'):BlS B S b l w':=by
 obtain ⟨p,v,hp,A,q,hs⟩:=h.ex;refine ⟨⟨p,v,hp,?_,q.below j q.lt,hs⟩,h.sb,h.sB,fun i hi=>Yi (h.sL i hi) j.size⟩;obtain ⟨r,v',o,u,z⟩:=A;exact ⟨r,v',Blk.below (cs:=#[p,v']) o j (Blk.lt (cs:=#[p,v']) o),u.kept (ag j none) (by cases v'.ownBlock <;> simp),z⟩
end
end Go.Proofs.YtnhekaepgpbijaaGreatDoor

namespace Go.Proofs.YtnhekaepgpbijaaGreatDoor
open Go.Proofs.Tryz Go.RowKit Go.ChangeShapes Go.WideShapes Go.Sort
variable {n:Int} {e:Ending} {t:ByteArray} {v:Value} {l ls:List (List UInt8)} {a b c k lo:Nat} {A:Option Addr} {D L cm s sw:List UInt8} {P:UInt8->Prop} {p_:Prop}
theorem QG (t:Tm):enc t=head t.k t.a t.b t.s.data.toList t.l.length++encs t.l:=by
 cases t
 simp [enc,Tm.k,Tm.a,Tm.b,Tm.s,Tm.l]
theorem zu {T:List Tm} {w w':World} (h:arg T n=none) (j:Ad T n w e w') :
  e=.returned (.tuple #[.agg #[.int .i64 0,.int .i64 0,.int .i64 0,.string ⟨#[]⟩,.slice none 0 0],.bool false])/\Below w.heap.size w w':=by
 obtain ⟨j | ⟨t,js,av,o,_⟩,p⟩:=j
 ·exact ⟨j.2,p⟩
 ·rw [h] at o;cases o
theorem oQ {T:List Tm} {w w':World} {t:Tm} (h:arg T n=some t) (j:Ad T n w e w') :
  ∃js A c,eF T t.l js/\e=.returned (.tuple #[.agg #[.int .i64 t.k,.int .i64 t.a,.int .i64 t.b,.string t.s,.slice A t.l.length c],.bool true])/\w'.ownsRow w.heap.size 39 1 (.slice A t.l.length c) js.length ((js.map Int.ofNat).map (Value.int .i64))/\Below w.heap.size w w':=by
 obtain ⟨j | ⟨u,js,av,q,o,rfl,p⟩,r⟩:=j
 ·rw [h] at j;cases j.1
 ·rw [h] at q
  cases q
  obtain ⟨A,c,rfl⟩:=iH p;rw [o.len] at p ⊢;exact ⟨js,A,c,o,rfl,by rw [o.len];exact p,r⟩
theorem Grown.outs_ {S j:Nat->Prop} {w w':World} (h:Grown S w j w'):dD S w w':=⟨h.os,h.tape,h.output,h.size,h.block⟩
def kH (w:World):Prop:=∃m,w.cell? ⟨4,0,none⟩=some (.int .i64 m)
theorem kH.below {w w':World} (h:kH w) (j:Below w.heap.size w w'):kH w':=by
 obtain ⟨m,g⟩:=h;exact ⟨m,(j.cell (p:=⟨4,0,none⟩) (World.block_lt_of_cell? w _ g)).trans g⟩
theorem eY {w:World} (o:Obj):Below w.heap.size w (w.alloc o):=(Below.refl _ _).alloc (Y2 _) o
def VP (w w':World) (v:Value) (ls:List (List UInt8)):Prop:=Strs w.heap.size w' v (ls.map bs)
theorem VP.txs {w w':World} (h:VP w w' v ls):Txs w' v ls:=Strs.mono h (Yb _)
def bN (lo:Nat) (w':World) (v:Value) (ls:List (List UInt8)):Prop:=∃A c,v=.slice A ls.length c/\ls.length<=c/\Sl lo w' 1 A ls.length ((ls.map bs).map Value.string)
theorem dO (lo:Nat) (w':World) (c:Nat):bN lo w' (.slice none 0 c) []:=⟨none,c,rfl,Yb _,Sl.nil_⟩
theorem Al {w':World} {n:Nat} (h:Strs lo w' (.slice A n c) (ls.map bs)) (j:ls.length<=c):bN lo w' (.slice A n c) ls:=by
 obtain ⟨o,p,e,g⟩:=h;injection e with e1 e2 e3;subst e1 e2 e3;rw [Yd] at g ⊢;exact ⟨A,c,rfl,j,g⟩
theorem bN.mono {g:Nat} {w':World} (h:bN lo w' v ls) (p:g<=lo):bN g w' v ls:=by
 obtain ⟨A,c,e,o,j⟩:=h;exact ⟨A,c,e,o,j.mono p⟩
theorem bN.set_ {w':World} (h:bN lo w' v ls) {p:Addr} (hp:p.block<lo) (u:Value):bN lo (w'.setCell p u) v ls:=by
 obtain ⟨A,c,e,j,g⟩:=h;exact ⟨A,c,e,j,g.setCell hp u⟩
theorem bY {s:ByteArray} (h:k<s.size):s[k]∈s.data.toList:=by
 have g:k<s.data.toList.length:=h;exact List.mem_iff_getElem.2 ⟨k,g,rfl⟩
theorem kW {s:ByteArray} (h:k<s.size) (o:∀c∈s.data.toList.take k,P c) (p:P s[k]):∀c∈s.data.toList.take (k+1),P c:=by
 intro c g;have j:k<s.data.toList.length:=h;rw [Yh j] at g;rcases Yy.1 g with g | g
 ·exact o c g
 ·simp only [Ym] at g
  subst g;exact p
theorem kL {s:ByteArray} (h:¬ k<s.size) (g:∀c∈s.data.toList.take k,P c):∀c∈s.data.toList,P c:=by
 intro c j;refine g c ?_;rw [Yp (by show s.size<=k;omega)];exact j
section
variable {w : World}
theorem zz4fa (h_:p_:=by
 go_round
 case rel=>exact ⟨k+1,hlt,by go_num,H2⟩
 case measure=>simp [intOf];omega):p_:=h_
theorem EJ (s:ByteArray) (hs:s.size<=9223372036854775807) (w:World):Calls prog 279 #[.string s] w (fun e w'=>e=.returned (.bool (bA s.data.toList))/\w'=w):=by
 have r:=hide (fun W=>Tryz.strings_Contains_one s 44 W);rw [xe] at r;generalize C:s.data.toList.contains 44=b at r;have z:=hide C;clear C;go_enter func279,ntmps279;go_wp2_with fail
 go_loop [6] (fun i=>∃k:Nat,k<=s.size/\i=.int .i64 k/\Hid (∀c∈s.data.toList.take k,33<=c.toNat/\c.toNat<=126)) (fun i=>s.size - (intOf i).toNat)
 case atStart=>exact ⟨0,Yb _,rfl,hide Z3⟩
 case round =>
  obtain ⟨k,G,rfl,H⟩:=hrel
  by_cases hlt:k<s.size
  ·by_cases A:s[k].toNat<33
   ·have u:(s[k].toNat:Int)<33:=by omega
    have E:=hide (lV (bY hlt) (.inl A));go_wp2_with fail;go_ret;exact ⟨Zi,rfl⟩
   ·have u:¬ (s[k].toNat:Int)<33:=by omega
    by_cases B:126<s[k].toNat
    ·have v:(126:Int)<s[k].toNat:=by omega
     have E:=hide (lV (bY hlt) (.inr (.inl B)));go_wp2_with fail;go_ret;exact ⟨Zi,rfl⟩
    ·have v:¬ (126:Int)<s[k].toNat:=by omega
     have H2:=hide (kW hlt H.out ⟨YK A,YK B⟩);clear H;go_wp2_with fail;exact zz4fa
  ·have E:=hide (zA (kL hlt H.out))
   rw [z.out] at E;clear H z
   by_cases q:s=⟨#[]⟩
   ·subst q
    go_wp2_with fail;go_ret;exact ⟨rfl,rfl⟩
   ·have F:=iJ q
    have p:=eX q
    have D:(s.toList != [])=true:=by
     rw [bne,Bool.not_eq_true'];simpa [ByteArray.toList_eq] using p
    have j:1<=s.data.toList.length:=by
     rcases Nat.eq_zero_or_pos s.data.toList.length with h9 | h9
     ·exact absurd (toList_inj (Yc h9)) q
     ·exact h9
    have o:s.data.toList.length=s.size:=rfl
    by_cases g:s.size<=64
    ·have h:(s.size:Int)<=64:=by omega
     go_wp2_with (go_at_call 302;refine (r.out _).mono ?_;rintro e w1 ⟨rfl,rfl⟩);go_ret;refine ⟨?_,rfl⟩;rw [E.out,Y8 j,o,Y8 g];rfl
    ·have h:¬ (s.size:Int)<=64:=by omega
     go_wp2_with fail;go_ret;refine ⟨?_,rfl⟩;rw [E.out,Y8 j,o,Y7 g];rfl
theorem zz841 (h_:p_:=by
 intro x hx;rw [Yh hlt] at hx;rcases Yy.1 hx with hx | hx
 ·exact H.out x hx
 ·simp only [Ym] at hx
  subst hx
  exact hr):p_:=h_
theorem ww (h:Txs w (.slice A ls.length c) ls) (r:∀y∈ls,y.length<=9223372036854775807) :
  Calls prog 240 #[.slice A ls.length c] w (fun e w'=>e=.returned (.int .i64 (bJ ls))/\w'=w):=by
 obtain ⟨u,z,hv,q⟩:=h.open_;obtain ⟨rfl,rfl⟩:u=A/\z=c:=Z8;clear hv h;go_enter func240,ntmps240
 by_cases p:16<ls.length
 ·have o:(16:Int)<ls.length:=by omega
  have E:=hide (uz p);go_wp2_with fail;go_ret;exact ⟨Zi,rfl⟩
 ·have o:¬ (16:Int)<ls.length:=by omega
  have v:=hide r;clear r;go_wp2_with fail
  go_loop [10] (fun i=>∃k:Nat,k<=ls.length/\i=.int .i64 k/\Hid (∀x∈ls.take k,bA x=true)) (fun i=>ls.length - (intOf i).toNat)
  case atStart=>exact ⟨0,Yb _,rfl,hide Z3⟩
  case round =>
   obtain ⟨k,F,rfl,H⟩:=hrel
   by_cases hlt:k<ls.length
   ·obtain ⟨C,rfl,B,D⟩:=q k hlt
    have j:=hide (EJ (bs ls[k]) (v.out _ (Yf hlt)) w);rw [aO] at j;have g:=Yf hlt
    cases hr:bA ls[k] with
    | false =>
     rw [hr] at j;have E:=hide (zi (l:=ls) Z0 g hr);clear g hr;go_wp2_with (go_at_call 279;refine j.out.mono ?_;rintro e w1 ⟨rfl,rfl⟩);go_ret;exact ⟨Zi,rfl⟩
    | true =>
     rw [hr] at j
     have H2:=hide (show ∀x∈ls.take (k+1),bA x=true from by
      exact zz841)
     clear g hr H;go_wp2_with (go_at_call 279;refine j.out.mono ?_;rintro e w1 ⟨rfl,rfl⟩);exact zz4fa
   ·have E:=hide (wV (l:=ls) Z0 (fun x hx=>H.out x Xb))
    clear H q;go_wp2_with fail;go_ret;exact ⟨Zi,rfl⟩
theorem F6 (s:ByteArray) (w:World):((Lib.splitB ⟨#[44]⟩ 0 (Lib.countB s ⟨#[44]⟩) s).map Value.string)=((aN s.data.toList).map bs).map Value.string:=by
 rw [<-qU,List.map_map,List.map_map];congr 1
theorem F7 (s:ByteArray):Lib.countB s ⟨#[44]⟩+1=(aN s.data.toList).length:=by
 rw [<-qU,Yd,Lib.splitB_all ⟨#[44]⟩ Z2 0 _ s rfl]
theorem BX (s:List UInt8):∀x∈aN s,x.length<=s.length:=by
 induction s with
 | nil=>simp [aN]
 | cons c r ih =>
  intro x g;unfold aN at g
  split at g
  ·rcases Yz.1 g with rfl | g
   ·simp
   ·have:=ih x g
    simp;omega
  ·rcases Yz.1 g with rfl | g
   ·have h:=yE r
    cases hs:aN r with
    | nil=>exact absurd hs h
    | cons y ys =>
     have:=ih y (by rw [hs];simp);simp;omega
   ·have:=ih x (List.mem_of_mem_tail g)
    simp;omega
theorem Gl (s:ByteArray) (B:kH w) (hs:s.size<4294967281) :
  Calls prog 159 #[.string s] w (fun e w'=>∃v,e=.returned (.tuple #[v,.int .i64 (splitN s.data.toList).1])/\bN w.heap.size w' v (splitN s.data.toList).2/\Below w.heap.size w w'):=by
 obtain ⟨m,C⟩:=B
 by_cases u:s=⟨#[]⟩
 ·subst u
  go_enter func159,ntmps159;go_wp2_with fail;go_ret2;exact ⟨_,rfl,dO _ _ _,Z4⟩
 ·have D:=eX u
  have A:=iJ u;have p:s.data.toList≠[]:=fun e=>u (toList_inj e)
  have r:=hide (Tryz.strings_Split s ⟨#[44]⟩ m w hs C Z2);rw [F6 s w,F7 s] at r
  have o:Strs w.heap.size (w.alloc (.cells (((aN s.data.toList).map bs).map Value.string).toArray 9)) (.slice (some ⟨w.heap.size,0,none⟩) (aN s.data.toList).length (aN s.data.toList).length) ((aN s.data.toList).map bs):=by
   have h9:=bR w 9 ((aN s.data.toList).map bs) _ rfl;rw [Yd] at h9;exact h9
  have h:=eY (w:=w) (.cells (((aN s.data.toList).map bs).map Value.string).toArray 9);have j:=BX s.data.toList
  have q:splitN s.data.toList=if bJ (aN s.data.toList)=0 then (0,aN s.data.toList) else (bJ (aN s.data.toList),[]):=by
   unfold splitN;rw [Y5 p]
  have z:s.data.toList.length=s.size:=rfl;have g:=hide q;generalize aN s.data.toList=ls at r o h j g;generalize w.alloc (.cells ((ls.map bs).map Value.string).toArray 9)=w1 at r o h;have HK:=hide (ww (w:=w1) (c:=ls.length) (Strs.mono o (Yb _)) (fun y F=>by have:=j y F;omega));have HT:=hide o;clear o j q p z;go_enter func159,ntmps159;go_wp2_with (go_at_call 239;refine r.out.mono ?_;rintro e w2 ⟨rfl,rfl⟩);refine HK.out.mono ?_;rintro e w3 ⟨rfl,rfl⟩;rcases jJ ls with h9 | h9 | h9
  ·rw [h9] at g ⊢
   go_wp2_with fail;go_ret2;rw [g.out];exact ⟨_,rfl,Al HT.out (Y2 _),h⟩
  ·rw [h9] at g ⊢
   go_wp2_with fail;go_ret2;rw [g.out];exact ⟨_,rfl,dO _ _ _,h⟩
  ·rw [h9] at g ⊢
   go_wp2_with fail;go_ret2;rw [g.out];exact ⟨_,rfl,dO _ _ _,h⟩
def mr (ls:List (List UInt8)):List UInt8:=if bJ ls=0 then dV ls else []
theorem zz19b (h_:p_:=by
 rw [h9] at HK ⊢;rw [hj];clear h hl;go_enter func202,ntmps202;go_wp2_with (go_at_call 240;refine HK.out.mono ?_;rintro e w1 ⟨rfl,rfl⟩);go_ret2
 exact ⟨rfl,Below.refl _ _⟩):p_:=h_
theorem rZ (h:Txs w (.slice A ls.length c) ls) (P:ls.length<=c) (hl:∀y∈ls,y.length<=9223372036854775807) :
  Calls prog 202 #[.slice A ls.length c] w (fun e w'=>e=.returned (.tuple #[.string (bs (mr ls)),.int .i64 (bJ ls)])/\Below w.heap.size w w'):=by
 have HK:=hide (ww h hl);rcases jJ ls with h9 | h9 | h9
 ·have hj:mr ls=dV ls:=by unfold mr;rw [Y6 h9]
  obtain ⟨w1,w2⟩:=jE h9;have Q:=kg (l:=ls) (fun y D=>(gQ (w2 y D)).2)
  have g:Lib.join ((ls.map bs).map (·.data.toList)) (⟨#[44]⟩:ByteArray).data.toList=dV ls:=by
   rw [List.map_map,<- GG];congr 1
   conv=>rhs;rw [<-List.map_id ls]
   rfl
  have L:Hid (Calls prog 264 #[.slice A ls.length c,.string ⟨#[44]⟩] w (fun e w'=>e=.returned (.string (bs (dV ls)))/\Below w.heap.size w w')):=by
   by_cases I:ls=[]
   ·subst I
    refine hide ((Tryz.strings_Join_none A c ⟨#[44]⟩ w).mono ?_);rintro e w' ⟨rfl,rfl⟩;exact ⟨rfl,Below.refl _ _⟩
   ·obtain ⟨K,F,hv,G⟩:=h.open_
    obtain ⟨rfl,rfl⟩:K=A/\F=c:=Z8;have q:0<ls.length:=List.length_pos_iff.2 I;obtain ⟨N,rfl,u,z⟩:=G 0 q;have C:=World.cell?_spot z;obtain ⟨bk,o,S⟩:=N;have r:S=none:=by simpa [Addr.add] using C
    subst r
    have:=Tryz.strings_Join bk o F (ls.map bs) ⟨#[44]⟩ w (fun j x J=>by
     rw [Yt,Option.map_eq_some_iff] at J;obtain ⟨y,D,rfl⟩:=J;obtain ⟨B,rfl⟩:=Yx.1 D;obtain ⟨O,e2,_,p⟩:=G j B;injection e2 with e2;rw [<-e2] at p;rw [<-p];congr 1;unfold Addr.add
     split
     ·rename_i R;subst R;rfl
     ·rfl) u (by rw [Yd];omega) (by rw [Yd];exact P) (by rw [g];omega)
    rw [g,Yd] at this;exact hide this
  rw [h9] at HK ⊢;rw [hj];clear h g w2 hl;go_enter func202,ntmps202;go_wp2_with (go_at_call 240;refine HK.out.mono ?_;rintro e w1 ⟨rfl,rfl⟩);refine L.out.mono ?_;rintro e w2 ⟨rfl,v⟩;go_wp2_with fail;go_ret2;exact ⟨rfl,v⟩
 ·have hj:mr ls=[]:=by unfold mr;rw [Y5 Z0]
  exact zz19b
 ·have hj:mr ls=[]:=by unfold mr;rw [Y5 Z0]
  exact zz19b
end
def AY (B:Nat) (w:World):Prop:=∃w0:World,kH w0/\w0.heap.size<=B/\Below w0.heap.size w0 w
theorem AY.maxL {B:Nat} {w:World} (h:AY B w):kH w:=by
 obtain ⟨w0,j,_,o⟩:=h;exact j.below o
theorem AY.below {B:Nat} {w w':World} (h:AY B w) (q:Below w.heap.size w w'):AY B w':=by
 obtain ⟨w0,o,p,j⟩:=h;exact ⟨w0,o,p,j.trans (q.mono j.size)⟩
theorem AY.grown {B g:Nat} {w w':World} {T:List Tm} {S S':Nat->Prop} (h:AY B w) (o:Use B w g T S) (r:Grown S w S' w'):AY B w':=by
 obtain ⟨w0,p,j,q⟩:=h;exact ⟨w0,p,j,q.trans ((r.below o.base o.ar.sB).mono j)⟩
structure Pay (w0:World) (B g:Nat) (T:List Tm) (S:Nat->Prop) (w:World):Prop where
 use:Use B w g T S
 max:AY B w
 bel:Below w0.heap.size w0 w
 base:w0.heap.size<=B
section
variable {w0 w w' : World} {B g : Nat} {T T' : List Tm} {S S' : Nat -> Prop}
theorem Pay.new (q:Tab w0) (p:kH w0) (j:Below w0.heap.size w0 w) (h:Ar w.heap.size w' g [] S) (o:Below w.heap.size w w'):Pay w0 w.heap.size g [] S w' :=
 ⟨⟨h,⟨w0,q,j.size,j.trans (o.mono j.size)⟩,o.size,Yb _⟩,⟨w0,p,j.size,j.trans (o.mono j.size)⟩,j.trans (o.mono j.size),j.size⟩
theorem Pay.below (h:Pay w0 B g T S w) (j:Below w.heap.size w w'):Pay w0 B g T S w' :=
 ⟨h.use.below j,h.max.below j,h.bel.trans (j.mono h.bel.size),h.base⟩
theorem Pay.grown (h:Pay w0 B g T S w) (j:Grown S w S' w') (o:Ar B w' g T' S') (p:T'.length<=1000000000):Pay w0 B g T' S' w' :=
 ⟨h.use.grown j o p,h.max.grown h.use j,h.bel.trans ((j.below h.use.base h.use.ar.sB).mono h.base),h.base⟩
theorem Pay.kept (h:Pay w0 B g T S w) (k:w.grownBy w' (some b)) (r:¬ S b) (q:B<=b):Pay w0 B g T S w':=by
 refine ⟨h.use.kept k (fun i e=>by cases e;exact ⟨r,q⟩),?_,h.bel.grown k h.bel.size (fun i e=>by cases e;have:=h.base;omega),h.base⟩;obtain ⟨u,o,p,j⟩:=h.max;exact ⟨u,o,p,j.grown k j.size (fun i e=>YS)⟩
theorem Pay.ar (h:Pay w0 B g T S w):Ar B w g T S:=h.use.ar
end
def xZ (a b:Nat) (l:List UInt8):Bool:=l.all fun c=>decide (a<=c.toNat) && decide (c.toNat<=b)
theorem qI {l:List UInt8} (h:∀c∈l,a<=c.toNat/\c.toNat<=b):xZ a b l=true:=by
 unfold xZ;rw [List.all_eq_true];intro c g;have:=h c g;simp [this.1,this.2]
theorem nG {l:List UInt8} {c:UInt8} (j:c∈l) (h:c.toNat<a\/b<c.toNat):xZ a b l=false:=by
 cases g:xZ a b l with
 | false=>rfl
 | true =>
  exfalso;unfold xZ at g;rw [List.all_eq_true] at g;have:=g c j;simp only [YF,Yw] at this;omega
theorem xX (l:List UInt8) (b:UInt8):decide (0<=Lib.indexByte l b)=l.contains b:=(Lib.contains_iff_indexByte l b).symm
def bW (l:List UInt8):Bool:=xZ 33 126 l && decide (1<=l.length) && decide (l.length<=64)
def iw (l:List UInt8):Bool:=xZ 32 126 l && decide (l.length<=253)
def jN (l:List UInt8):Bool:=l.contains 32
def wG:List UInt8:=[83,83,72,45,50,46,48,45]
def tu (cm:List UInt8):List UInt8:=if cm=[] then [] else 32 :: cm
def bV (sw cm:List UInt8):List UInt8:=if sw=[]\/jN sw=true then [] else if iw (wG++sw++tu cm)=true then wG++sw++tu cm else []
def aW (a b c:Int):Bool:=decide (1024<=a) && decide (a<=b) && decide (b<=c) && decide (c<=8192)
def aG (n:Int):Bool:=decide (0<=n) && decide (n<=15)
section
variable {w : World}
theorem zzaf6 (h_:p_:=by
 have E:=hide (show bW s.data.toList=false from by unfold bW;rw [nG (bY hlt) (.inr h2)];rfl);go_wp2_with fail;go_ret
 exact ⟨by rw [E.out];rfl,rfl⟩):p_:=h_
theorem zzd79 (h_:p_:=by
 have E:=hide (show bW s.data.toList=false from by unfold bW;rw [nG (bY hlt) (.inl h1)];rfl);go_wp2_with fail;go_ret
 exact ⟨by rw [E.out];rfl,rfl⟩):p_:=h_
theorem zz022 (h_:p_:=by
 by_cases h64:s.size<=64
 ·have h64':(s.size:Int)<=64:=by omega
  go_wp2_with fail;go_ret;refine ⟨?_,rfl⟩;unfold bW;rw [E.out,hl2,Y8 h0,Y8 h64];rfl
 ·have h64':¬ (s.size:Int)<=64:=by omega
  go_wp2_with fail;go_ret;refine ⟨?_,rfl⟩;unfold bW;rw [E.out,hl2,Y7 h64,Bool.and_false]
  rfl):p_:=h_
theorem BK (s:ByteArray) (hs:s.size<=9223372036854775807) (w:World):Calls prog 220 #[.string s] w (fun e w'=>e=.returned (.bool (bW s.data.toList))/\w'=w):=by
 have hl2:s.data.toList.length=s.size:=rfl;go_enter func220,ntmps220;go_wp2_with fail
 go_loop [6] (fun i=>∃k:Nat,k<=s.size/\i=.int .i64 k/\Hid (∀c∈s.data.toList.take k,33<=c.toNat/\c.toNat<=126)) (fun i=>s.size - (intOf i).toNat)
 case atStart=>exact ⟨0,Yb _,rfl,hide Z3⟩
 case round =>
  obtain ⟨k,o,rfl,H⟩:=hrel
  by_cases hlt:k<s.size
  ·by_cases h1:s[k].toNat<33
   ·have h:(s[k].toNat:Int)<=32:=by omega
    exact zzd79
   ·have h:¬ (s[k].toNat:Int)<=32:=by omega
    by_cases h2:126<s[k].toNat
    ·have j:(126:Int)<s[k].toNat:=by omega
     exact zzaf6
    ·have j:¬ (126:Int)<s[k].toNat:=by omega
     have H2:=hide (kW hlt H.out ⟨YK h1,YK h2⟩);clear H;go_wp2_with fail;exact zz4fa
  ·have E:=hide (qI (kL hlt H.out))
   clear H
   by_cases h0:1<=s.size
   ·have g:(1:Int)<=s.size:=by omega
    exact zz022
   ·have g:¬ (1:Int)<=s.size:=by omega
    go_wp2_with fail;go_ret;refine ⟨?_,rfl⟩;unfold bW;rw [hl2,Y7 h0,Bool.and_false,YI];rfl
theorem zh (s:ByteArray) (hs:s.size<=9223372036854775807) (w:World):Calls prog 229 #[.string s] w (fun e w'=>e=.returned (.bool (bW s.data.toList))/\w'=w):=by
 have hl2:s.data.toList.length=s.size:=rfl;go_enter func229,ntmps229;go_wp2_with fail
 go_loop [3] (fun i=>∃k:Nat,k<=s.size/\i=.int .i64 k/\Hid (∀c∈s.data.toList.take k,33<=c.toNat/\c.toNat<=126)) (fun i=>s.size - (intOf i).toNat)
 case atStart=>exact ⟨0,Yb _,rfl,hide Z3⟩
 case round =>
  obtain ⟨k,p,rfl,H⟩:=hrel
  by_cases hlt:k<s.size
  ·have g:(k:Int)<s.size:=by omega
   by_cases h1:s[k].toNat<33
   ·have j:(s[k].toNat:Int)<33:=by omega
    exact zzd79
   ·have j:¬ (s[k].toNat:Int)<33:=by omega
    by_cases h2:126<s[k].toNat
    ·have o:(126:Int)<s[k].toNat:=by omega
     exact zzaf6
    ·have o:¬ (126:Int)<s[k].toNat:=by omega
     have H2:=hide (kW hlt H.out ⟨YK h1,YK h2⟩);clear H;go_wp2_with fail;exact zz4fa
  ·have g:¬ (k:Int)<s.size:=by omega
   have E:=hide (qI (kL hlt H.out));clear H
   by_cases h0:1<=s.size
   ·have h:(0:Int)<s.size:=by omega
    exact zz022
   ·have h:¬ (0:Int)<s.size:=by omega
    go_wp2_with fail;go_ret;refine ⟨?_,rfl⟩;unfold bW;rw [hl2,Y7 h0,Bool.and_false,YI];rfl
theorem zz3bc (h_:p_:=by
 go_enter func216,ntmps216;go_wp2_with fail;go_ret
 exact ⟨by rw [E.out];rfl,rfl⟩):p_:=h_
theorem tL (n:Int) (w:World):Calls prog 216 #[.int .i64 n] w (fun e w'=>e=.returned (.bool (aG n))/\w'=w):=by
 by_cases g:0<=n
 ·by_cases h:n<=15
  ·have E:=hide (show aG n=true from by unfold aG;rw [Y8 g,Y8 h];rfl)
   have j:n<16:=Z0;exact zz3bc
  ·have E:=hide (show aG n=false from by unfold aG;rw [Y7 h,Bool.and_false])
   have j:¬ n<16:=Z0;exact zz3bc
 ·have E:=hide (show aG n=false from by unfold aG;rw [Y7 g,YI])
  exact zz3bc
theorem zzd20 (h_:p_:=by
 go_enter func152,ntmps152;go_wp2_with fail;go_ret
 exact ⟨by rw [E.out];rfl,rfl⟩):p_:=h_
theorem qm (n:Int) (w:World):Calls prog 152 #[.int .i64 n] w (fun e w'=>e=.returned (.bool (aG n))/\w'=w):=by
 by_cases g:0<=n
 ·by_cases h:n<=15
  ·have E:=hide (show aG n=true from by unfold aG;rw [Y8 g,Y8 h];rfl)
   exact zzd20
  ·have E:=hide (show aG n=false from by unfold aG;rw [Y7 h,Bool.and_false])
   exact zzd20
 ·have E:=hide (show aG n=false from by unfold aG;rw [Y7 g,YI])
  exact zzd20
theorem zzb8c (h_:p_:=by
 go_enter func225,ntmps225;go_wp2_with fail;go_ret
 exact ⟨by rw [E.out];rfl,rfl⟩):p_:=h_
theorem Li (a b c:Int) (w:World):Calls prog 225 #[.int .u32 a,.int .u32 b,.int .u32 c] w (fun e w'=>e=.returned (.bool (aW a b c))/\w'=w):=by
 by_cases g:1024<=a
 ·by_cases h:a<=b
  ·by_cases j:b<=c
   ·by_cases o:c<=8192
    ·have E:=hide (show aW a b c=true from by unfold aW;rw [Y8 g,Y8 h,Y8 j,Y8 o];rfl)
     exact zzb8c
    ·have E:=hide (show aW a b c=false from by unfold aW;rw [Y7 o,Bool.and_false])
     exact zzb8c
   ·have E:=hide (show aW a b c=false from by unfold aW;rw [Y7 j,Bool.and_false,YI])
    exact zzb8c
  ·have E:=hide (show aW a b c=false from by unfold aW;rw [Y7 h,Bool.and_false,YI,YI])
   exact zzb8c
 ·have E:=hide (show aW a b c=false from by unfold aW;rw [Y7 g,YI,YI,YI])
  exact zzb8c
theorem zz223 (h_:p_:=by
 go_enter func231,ntmps231;go_wp2_with fail;go_ret
 exact ⟨by rw [E.out];rfl,rfl⟩):p_:=h_
theorem Fe (a b c:Int) (w:World):Calls prog 231 #[.int .i64 a,.int .i64 b,.int .i64 c] w (fun e w'=>e=.returned (.bool (aW a b c))/\w'=w):=by
 by_cases g:1024<=a
 ·by_cases h:a<=b
  ·by_cases j:b<=c
   ·by_cases o:c<=8192
    ·have E:=hide (show aW a b c=true from by unfold aW;rw [Y8 g,Y8 h,Y8 j,Y8 o];rfl)
     exact zz223
    ·have E:=hide (show aW a b c=false from by unfold aW;rw [Y7 o,Bool.and_false])
     exact zz223
   ·have E:=hide (show aW a b c=false from by unfold aW;rw [Y7 j,Bool.and_false,YI])
    exact zz223
  ·have E:=hide (show aW a b c=false from by unfold aW;rw [Y7 h,Bool.and_false,YI,YI])
   exact zz223
 ·have E:=hide (show aW a b c=false from by unfold aW;rw [Y7 g,YI,YI,YI])
  exact zz223
end
def cZ:ByteArray:=⟨#[83,83,72,45,50,46,48,45]⟩
theorem zF (cm:List UInt8):bV [] cm=[]:=by unfold bV;rw [Y6 (.inl rfl)]
theorem vZ (h:jN sw=true):bV sw cm=[]:=by unfold bV;rw [Y6 (.inr h)]
theorem G5 (g:sw≠[]) (h:jN sw=false):bV sw cm=if iw (wG++sw++tu cm)=true then wG++sw++tu cm else []:=by
 unfold bV;rw [Y5 (by rw [h];rintro (e | e);exact g e;cases e)]
def lQ (sw cm:List UInt8):Int:=if bV sw cm=[] then 1 else 0
theorem yJ (s:ByteArray):(cZ++s).data.toList=wG++s.data.toList++tu []:=by
 rw [data_append,Yk];unfold tu;rw [Y6 rfl,List.append_nil];rfl
theorem zx {s:ByteArray} (h:t≠⟨#[]⟩):(cZ++s++((⟨#[32]⟩:ByteArray)++t)).data.toList=wG++s.data.toList++tu t.data.toList:=by
 rw [data_append,data_append,data_append];unfold tu;rw [Y5 (fun e=>h (toList_inj e))];rfl
section
variable {w : World}
theorem F8 (n:Nat) (w:World) (g:n<256):Calls prog 322 #[.int .u8 n] w fun e w'=>e=.returned (.bool (decide (32<=n) && decide (n<=126)))/\w'=w:=by
 go_enter func322,ntmps322;go_wp2
 all_goals (go_ret;refine ⟨gD ?_,rfl⟩;(first | (simp_all;done) | (simp_all;omega) | (rw [Bool.eq_iff_iff];simp_all;done) | (rw [Bool.eq_iff_iff];simp_all;omega)))
theorem DU (s:ByteArray) (hs:s.size<=9223372036854775807) (w:World):Calls prog 303 #[.string s] w (fun e w'=>e=.returned (.bool (iw s.data.toList))/\w'=w):=by
 have o:s.data.toList.length=s.size:=rfl;go_enter func303,ntmps303;go_wp2_with fail
 go_loop [6] (fun i=>∃k:Nat,k<=s.size/\i=.int .i64 k/\Hid (∀c∈s.data.toList.take k,32<=c.toNat/\c.toNat<=126)) (fun i=>s.size - (intOf i).toNat)
 case atStart=>exact ⟨0,Yb _,rfl,hide Z3⟩
 case round =>
  obtain ⟨k,u,rfl,H⟩:=hrel
  by_cases hlt:k<s.size
  ·have p:=hide (F8 s[k].toNat w (by have:=s[k].toNat_lt;omega))
   by_cases g:32<=s[k].toNat/\s[k].toNat<=126
   ·rw [Y8 g.1,Y8 g.2,Bool.and_self] at p
    have H2:=hide (kW hlt H.out g);clear H g;go_wp2_with (go_at_call 322;refine p.out.mono ?_;rintro e w1 ⟨rfl,rfl⟩);exact zz4fa
   ·have q:s[k].toNat<32\/126<s[k].toNat:=by omega
    have r:(decide (32<=s[k].toNat) && decide (s[k].toNat<=126))=false:=by
     rw [Bool.and_eq_false_iff,decide_eq_false_iff_not,decide_eq_false_iff_not];omega
    rw [r] at p;have E:=hide (show iw s.data.toList=false from by unfold iw;rw [nG (bY hlt) q];rfl);clear g q r H;go_wp2_with (go_at_call 322;refine p.out.mono ?_;rintro e w1 ⟨rfl,rfl⟩);go_ret;exact ⟨Zi,rfl⟩
  ·have E:=hide (qI (kL hlt H.out))
   clear H
   by_cases h:s.size<=253
   ·have j:(s.size:Int)<=253:=by omega
    go_wp2_with fail;go_ret;refine ⟨?_,rfl⟩;unfold iw;rw [E.out,o,Y8 h];rfl
   ·have j:¬ (s.size:Int)<=253:=by omega
    go_wp2_with fail;go_ret;refine ⟨?_,rfl⟩;unfold iw;rw [E.out,o,Y7 h];rfl
theorem rz (s:ByteArray) (hs:s.size<=9223372036854775807) (w:World):Calls prog 275 #[.string s] w (fun e w'=>e=.returned (.bool (xZ 32 126 s.data.toList))/\w'=w):=by
 go_enter func275,ntmps275;go_wp2_with fail
 go_loop [3] (fun i=>∃k:Nat,k<=s.size/\i=.int .i64 k/\Hid (∀c∈s.data.toList.take k,32<=c.toNat/\c.toNat<=126)) (fun i=>s.size - (intOf i).toNat)
 case atStart=>exact ⟨0,Yb _,rfl,hide Z3⟩
 case round =>
  obtain ⟨k,q,rfl,H⟩:=hrel
  by_cases hlt:k<s.size
  ·have g:(k:Int)<s.size:=by omega
   by_cases o:s[k].toNat<32
   ·have h:(s[k].toNat:Int)<32:=by omega
    have E:=hide (nG (a:=32) (b:=126) (bY hlt) (.inl o));go_wp2_with fail;go_ret;exact ⟨Zi,rfl⟩
   ·have h:¬ (s[k].toNat:Int)<32:=by omega
    by_cases p:126<s[k].toNat
    ·have j:(126:Int)<s[k].toNat:=by omega
     have E:=hide (nG (a:=32) (b:=126) (bY hlt) (.inr p));go_wp2_with fail;go_ret;exact ⟨Zi,rfl⟩
    ·have j:¬ (126:Int)<s[k].toNat:=by omega
     have H2:=hide (kW hlt H.out ⟨YK o,YK p⟩);clear H;go_wp2_with fail;exact zz4fa
  ·have g:¬ (k:Int)<s.size:=by omega
   have E:=hide (qI (kL hlt H.out));clear H;go_wp2_with fail;go_ret;exact ⟨Zi,rfl⟩
theorem AP (s:ByteArray) (hs:s.size<=9223372036854775807) (w:World):Calls prog 274 #[.string s] w (fun e w'=>(∃i:Int,e=.returned (.int .i64 i)/\decide (0<=i)=jN s.data.toList)/\w'=w):=by
 go_enter func274,ntmps274;go_wp2_with fail
 go_loop [3] (fun i=>∃k:Nat,k<=s.size/\i=.int .i64 k/\Hid (∀c∈s.data.toList.take k,c≠32)) (fun i=>s.size - (intOf i).toNat)
 case atStart=>exact ⟨0,Yb _,rfl,hide Z3⟩
 case round =>
  obtain ⟨k,q,rfl,H⟩:=hrel
  by_cases g:k<s.size
  ·have j:(k:Int)<s.size:=by omega
   by_cases h:s[k]=32
   ·have o:((s[k].toNat:Int) == 32)=true:=by rw [h];rfl
    have E:=hide (show jN s.data.toList=true from by unfold jN;rw [List.contains_iff_mem];exact h ▸ bY g);clear h;go_wp2_with fail;go_ret;exact ⟨⟨k,rfl,by rw [E.out];exact Y8 Z0⟩,rfl⟩
   ·have o:((s[k].toNat:Int) == 32)=false:=by
     rw [Y3];intro e;have:s[k].toNat=32:=Z0;exact h (UInt8.toNat_inj.1 this)
    have H2:=hide (kW g H.out h);clear H h;go_wp2_with fail;go_round
    case rel=>exact ⟨k+1,g,Zr,H2⟩
    case measure=>simp [intOf];omega
  ·have j:¬ (k:Int)<s.size:=by omega
   have E:=hide (show jN s.data.toList=false from by
    cases p:jN s.data.toList with
    | false=>rfl
    | true=>exact absurd rfl (kL g H.out 32 (List.contains_iff_mem.1 (by unfold jN at p;exact p))))
   clear H;go_wp2_with fail;go_ret;exact ⟨⟨-1,rfl,Zi⟩,rfl⟩
--BEGIN
theorem jy (h:bV L D=[]):lQ L D=1:=by unfold lQ;rw [Y6 h]
theorem qP {x:List UInt8} (h:bV L D=x) (g:bV L D≠[]):lQ L D=0:=by unfold lQ;rw [Y5 g]
theorem Am {S:ByteArray} (h:8<=S.size):S.data.toList≠[]:=fun e=>by
 have g:=Ye List.length e;have j:S.data.toList.length=S.size:=rfl;simp only [YL] at g;omega
theorem vC (l:List UInt8):decide (0<=Lib.indexByte l 32)=jN l:=xX l 32
theorem rA {s:ByteArray} (h:s≠⟨#[]⟩):0<s.size:=by
 rcases Nat.eq_zero_or_pos s.size with h9 | h9
 ·exact absurd (toList_inj (Yc (show s.data.toList.length=0 from h9))) h
 ·exact h9
theorem FJ {s:ByteArray} (h:t≠⟨#[]⟩):(cZ++s++(⟨#[32]⟩:ByteArray)++t).data.toList=wG++s.data.toList++tu t.data.toList:=by
 rw [<-zx (s:=s) h,data_append,data_append,data_append,data_append,data_append];simp
theorem zzfc9 (h_:p_:=by
 clear hsz hsz2 hL hD h1 h2;go_enter func271,ntmps271;go_wp2_with (first | (go_at_call 302;refine (HC.out _).mono ?_;rintro e w1 ⟨rfl,rfl⟩) | (go_at_call 303;refine HP.out.mono ?_;rintro e w2 ⟨rfl,rfl⟩));go_ret2
 exact ⟨by rw [E2.out,E.out];rfl,rfl⟩):p_:=h_
theorem I1 {sw cm:ByteArray} (h1:sw.size<=1000000) (h2:cm.size<=1000000) (w:World):Calls prog 271 #[.string sw,.string cm] w (fun e w'=>e=.returned (.tuple #[.string (bs (bV sw.data.toList cm.data.toList)),.int .i64 (lQ sw.data.toList cm.data.toList)])/\w'=w):=by
 have hsz:(cZ++sw).size<=9223372036854775807:=by rw [Yj];have:cZ.size=8:=rfl;omega
 have hsz2:(cZ++sw++((⟨#[32]⟩:ByteArray)++cm)).size<=9223372036854775807:=by rw [Yj,Yj,Yj];have:cZ.size=8:=rfl;have:(⟨#[32]⟩:ByteArray).size=1:=rfl;omega
 obtain ⟨L,hL⟩:∃L,sw.data.toList=L:=⟨_,rfl⟩
 obtain ⟨D,hD⟩:∃D,cm.data.toList=D:=⟨_,rfl⟩
 rw [hL,hD]
 by_cases u:sw=⟨#[]⟩
 ·subst u
  have E:=hide (show bV L D=[] from by rw [<-hL];exact zF D);have E2:=hide (show lQ L D=1 from jy E.out);have h:8+(⟨#[]⟩:ByteArray).size<=9223372036854775807:=Z0;have j:1+cm.size<=9223372036854775807:=Z0;have o:8+(⟨#[]⟩:ByteArray).size+(1+cm.size)<=9223372036854775807:=Z0;clear hsz hsz2 hL hD h1 h2;go_enter func271,ntmps271;go_wp2_with (first | fail | fail);go_ret2;exact ⟨by rw [E2.out,E.out];rfl,rfl⟩
 ·have C:=eX u
  have A:=iJ u;have q:L≠[]:=fun e=>u (toList_inj (hL.trans e))
  have HC:=hide (fun W=>Tryz.strings_Contains_one sw 32 W);rw [vC,hL] at HC
  cases r:jN L with
  | true =>
   have E:=hide (vZ (cm:=D) r);rw [r] at HC;clear r q;have E2:=hide (show lQ L D=1 from jy E.out);have h:8+sw.size<=9223372036854775807:=Z0;have j:1+cm.size<=9223372036854775807:=Z0;have o:8+sw.size+(1+cm.size)<=9223372036854775807:=Z0;clear hsz hsz2 hL hD h1 h2;go_enter func271,ntmps271;go_wp2_with (go_at_call 302;refine (HC.out _).mono ?_;rintro e w1 ⟨rfl,rfl⟩);go_ret2;exact ⟨by rw [E2.out,E.out];rfl,rfl⟩
  | false =>
   have HV:=hide (G5 (cm:=D) q r);rw [r] at HC;clear r q
   by_cases v:cm=⟨#[]⟩
   ·subst v
    have HD:=hide (show (cZ++sw).data.toList=wG++L++tu D from by rw [<-hL,<- hD];exact yJ sw);have p:(cZ++sw).data.toList.length=(cZ++sw).size:=rfl;have HP:=hide (DU (cZ++sw) hsz w)
    cases hLL:iw (cZ++sw).data.toList with
    | false =>
     rw [hLL] at HP;unfold cZ at HP;have E:=hide (show bV L D=[] from ZI);have E2:=hide (show lQ L D=1 from jy E.out);clear HV HD hLL p;have h:8+sw.size<=9223372036854775807:=Z0;have j:1+(⟨#[]⟩:ByteArray).size<=9223372036854775807:=Z0;have o:8+sw.size+(1+(⟨#[]⟩:ByteArray).size)<=9223372036854775807:=Z0;exact zzfc9
    | true =>
     rw [hLL] at HP;unfold cZ at HP;have E:=hide (show bV L D=(cZ++sw).data.toList from Xc);have g:bV L D≠[]:=Xf;have E2:=hide (show lQ L D=0 from qP E.out g);clear HV HD hLL p g;have h:8+sw.size<=9223372036854775807:=Z0;have j:1+(⟨#[]⟩:ByteArray).size<=9223372036854775807:=Z0;have o:8+sw.size+(1+(⟨#[]⟩:ByteArray).size)<=9223372036854775807:=Z0;exact zzfc9
   ·have B:=eX v
    have z:=iJ v;have HD:=hide (show (cZ++sw++((⟨#[32]⟩:ByteArray)++cm)).data.toList=wG++L++tu D from by rw [<-hL,<- hD];exact zx v);have p:(cZ++sw++((⟨#[32]⟩:ByteArray)++cm)).data.toList.length=(cZ++sw++((⟨#[32]⟩:ByteArray)++cm)).size:=rfl;have HP:=hide (DU (cZ++sw++((⟨#[32]⟩:ByteArray)++cm)) hsz2 w)
    cases hLL:iw (cZ++sw++((⟨#[32]⟩:ByteArray)++cm)).data.toList with
    | false =>
     rw [hLL] at HP;unfold cZ at HP;have E:=hide (show bV L D=[] from ZI);have E2:=hide (show lQ L D=1 from jy E.out);clear HV HD hLL p;have h:8+sw.size<=9223372036854775807:=Z0;have j:1+cm.size<=9223372036854775807:=Z0;have o:8+sw.size+(1+cm.size)<=9223372036854775807:=Z0;exact zzfc9
    | true =>
     rw [hLL] at HP;unfold cZ at HP;have E:=hide (show bV L D=(cZ++sw++((⟨#[32]⟩:ByteArray)++cm)).data.toList from Xc);have g:bV L D≠[]:=X7;have E2:=hide (show lQ L D=0 from qP E.out g);clear HV HD hLL p g;have h:8+sw.size<=9223372036854775807:=Z0;have j:1+cm.size<=9223372036854775807:=Z0;have o:8+sw.size+(1+cm.size)<=9223372036854775807:=Z0;exact zzfc9
theorem zz371 (h_:p_:=by
 clear hsz hsz2 hL hD h1 h2;go_enter func227,ntmps227;go_wp2_with (go_at_call 274;refine HC.out.mono ?_;rintro e w1 ⟨⟨i,rfl,hi⟩,rfl⟩;have hi2:0<=i:=by simpa using hi);go_ret2
 exact ⟨by rw [E2.out,E.out];rfl,rfl⟩):p_:=h_
theorem zzebe (h_:p_:=by
 clear hsz hsz2 hL hD h1 h2;go_enter func227,ntmps227;go_wp2_with (go_at_call 274;refine HC.out.mono ?_;rintro e w1 ⟨⟨i,rfl,hi⟩,rfl⟩;have hi2:¬ 0<=i:=by simpa using hi);go_ret2
 exact ⟨by rw [E2.out,E.out];rfl,rfl⟩):p_:=h_
theorem zz8f8 (h_:p_:=by
 clear hsz hsz2 hL hD h1 h2;go_enter func227,ntmps227;go_wp2_with (first | (go_at_call 274;refine HC.out.mono ?_;rintro e w1 ⟨⟨i,rfl,hi⟩,rfl⟩;have hi2:¬ 0<=i:=by simpa using hi) | (go_at_call 275;refine HP.out.mono ?_;rintro e w2 ⟨rfl,rfl⟩));go_ret2
 exact ⟨by rw [E2.out,E.out];rfl,rfl⟩):p_:=h_
theorem Ko {sw cm:ByteArray} (h1:sw.size<=1000000) (h2:cm.size<=1000000) (w:World):Calls prog 227 #[.string sw,.string cm] w (fun e w'=>e=.returned (.tuple #[.string (bs (bV sw.data.toList cm.data.toList)),.bool (decide (lQ sw.data.toList cm.data.toList=0))])/\w'=w):=by
 have hsz:(cZ++sw).size<=9223372036854775807:=by rw [Yj];have:cZ.size=8:=rfl;omega
 have hsz2:(cZ++sw++(⟨#[32]⟩:ByteArray)++cm).size<=9223372036854775807:=by rw [Yj,Yj,Yj];have:cZ.size=8:=rfl;have:(⟨#[32]⟩:ByteArray).size=1:=rfl;omega
 obtain ⟨L,hL⟩:∃L,sw.data.toList=L:=⟨_,rfl⟩
 obtain ⟨D,hD⟩:∃D,cm.data.toList=D:=⟨_,rfl⟩
 rw [hL,hD]
 by_cases C:sw=⟨#[]⟩
 ·subst C
  have E:=hide (show bV L D=[] from by rw [<-hL];exact zF D);have E2:=hide (show decide (lQ L D=0)=false from Xj)
  by_cases z:cm=⟨#[]⟩
  ·subst z
   have j:8+(⟨#[]⟩:ByteArray).size<=9223372036854775807:=Z0;have o:8+(⟨#[]⟩:ByteArray).size+1<=9223372036854775807:=Z0;have p:8+(⟨#[]⟩:ByteArray).size+1+(⟨#[]⟩:ByteArray).size<=9223372036854775807:=Z0;exact zzebe
  ·have F:(0:Int)<cm.size:=by have:=rA z;omega
   have j:8+(⟨#[]⟩:ByteArray).size<=9223372036854775807:=Z0;have o:8+(⟨#[]⟩:ByteArray).size+1<=9223372036854775807:=Z0;have p:8+(⟨#[]⟩:ByteArray).size+1+cm.size<=9223372036854775807:=Z0;exact zzebe
 ·have I:=eX C
  have G:=iJ C;have A:L≠[]:=fun e=>C (toList_inj (hL.trans e))
  have J:((sw.size:Int) == 0)=false:=by rw [Y3];have:=rA C;omega
  have HC:=hide (AP sw Z0 w);rw [hL] at HC
  cases B:jN L with
  | true =>
   have E:=hide (vZ (cm:=D) B);rw [B] at HC;clear B A;have E2:=hide (show decide (lQ L D=0)=false from Xj)
   by_cases z:cm=⟨#[]⟩
   ·subst z
    have j:8+sw.size<=9223372036854775807:=Z0;have o:8+sw.size+1<=9223372036854775807:=Z0;have p:8+sw.size+1+(⟨#[]⟩:ByteArray).size<=9223372036854775807:=Z0;exact zz371
   ·have F:(0:Int)<cm.size:=by have:=rA z;omega
    have j:8+sw.size<=9223372036854775807:=Z0;have o:8+sw.size+1<=9223372036854775807:=Z0;have p:8+sw.size+1+cm.size<=9223372036854775807:=Z0;exact zz371
  | false =>
   have HV:=hide (G5 (cm:=D) A B);rw [B] at HC;clear B A
   by_cases z:cm=⟨#[]⟩
   ·subst z
    have HD:=hide (show (cZ++sw).data.toList=wG++L++tu D from by rw [<-hL,<- hD];exact yJ sw);have h:(cZ++sw).data.toList.length=(cZ++sw).size:=rfl;have HP:=hide (rz (cZ++sw) hsz w)
    cases hp:xZ 32 126 (cZ++sw).data.toList with
    | false =>
     rw [hp] at HP;unfold cZ at HP;have hLL:iw (cZ++sw).data.toList=false:=by unfold iw;rw [hp];rfl
     have E:=hide (show bV L D=[] from ZI);have E2:=hide (show decide (lQ L D=0)=false from Xj);clear HV HD hLL h hp;have j:8+sw.size<=9223372036854775807:=Z0;have o:8+sw.size+1<=9223372036854775807:=Z0;have p:8+sw.size+1+(⟨#[]⟩:ByteArray).size<=9223372036854775807:=Z0;exact zz8f8
    | true =>
     rw [hp] at HP;unfold cZ at HP
     by_cases g:(cZ++sw).size<=253
     ·have v:(cZ++sw).size=8+sw.size:=by rw [Yj];rfl
      have r:¬ (253:Int)<((8+sw.size:Nat):Int):=Z0;have u:¬ (253:Int)<8+(sw.size:Int):=Z0;have hLL:iw (cZ++sw).data.toList=true:=by unfold iw;rw [hp,h,Y8 g];rfl
      have E:=hide (show bV L D=(cZ++sw).data.toList from Xc);have q:bV L D≠[]:=Xf;have E2:=hide (show decide (lQ L D=0)=true from by rw [qP E.out q];rfl);clear HV HD hLL h hp g v q;have j:8+sw.size<=9223372036854775807:=Z0;have o:8+sw.size+1<=9223372036854775807:=Z0;have p:8+sw.size+1+(⟨#[]⟩:ByteArray).size<=9223372036854775807:=Z0;exact zz8f8
     ·have v:(cZ++sw).size=8+sw.size:=by rw [Yj];rfl
      have r:(253:Int)<((8+sw.size:Nat):Int):=Z0;have u:(253:Int)<8+(sw.size:Int):=Z0;have hLL:iw (cZ++sw).data.toList=false:=by unfold iw;rw [hp,h,Y7 g];rfl
      have E:=hide (show bV L D=[] from ZI);have E2:=hide (show decide (lQ L D=0)=false from Xj);clear HV HD hLL h hp g v;have j:8+sw.size<=9223372036854775807:=Z0;have o:8+sw.size+1<=9223372036854775807:=Z0;have p:8+sw.size+1+(⟨#[]⟩:ByteArray).size<=9223372036854775807:=Z0;exact zz8f8
   ·have F:(0:Int)<cm.size:=by have:=rA z;omega
    have HD:=hide (show (cZ++sw++(⟨#[32]⟩:ByteArray)++cm).data.toList=wG++L++tu D from by rw [<-hL,<- hD];exact FJ z);have h:(cZ++sw++(⟨#[32]⟩:ByteArray)++cm).data.toList.length=(cZ++sw++(⟨#[32]⟩:ByteArray)++cm).size:=rfl;have HP:=hide (rz (cZ++sw++(⟨#[32]⟩:ByteArray)++cm) hsz2 w)
    cases hp:xZ 32 126 (cZ++sw++(⟨#[32]⟩:ByteArray)++cm).data.toList with
    | false =>
     rw [hp] at HP;unfold cZ at HP;have hLL:iw (cZ++sw++(⟨#[32]⟩:ByteArray)++cm).data.toList=false:=by unfold iw;rw [hp];rfl
     have E:=hide (show bV L D=[] from ZI);have E2:=hide (show decide (lQ L D=0)=false from Xj);clear HV HD hLL h hp;have j:8+sw.size<=9223372036854775807:=Z0;have o:8+sw.size+1<=9223372036854775807:=Z0;have p:8+sw.size+1+cm.size<=9223372036854775807:=Z0;exact zz8f8
    | true =>
     rw [hp] at HP;unfold cZ at HP
     by_cases g:(cZ++sw++(⟨#[32]⟩:ByteArray)++cm).size<=253
     ·have v:(cZ++sw++(⟨#[32]⟩:ByteArray)++cm).size=8+sw.size+1+cm.size:=by rw [Yj,Yj,Yj];rfl
      have r:¬ (253:Int)<((8+sw.size+1+cm.size:Nat):Int):=Z0;have u:¬ (253:Int)<8+(sw.size:Int)+1+(cm.size:Int):=Z0;have hLL:iw (cZ++sw++(⟨#[32]⟩:ByteArray)++cm).data.toList=true:=by unfold iw;rw [hp,h,Y8 g];rfl
      have E:=hide (show bV L D=(cZ++sw++(⟨#[32]⟩:ByteArray)++cm).data.toList from Xc);have q:bV L D≠[]:=X7;have E2:=hide (show decide (lQ L D=0)=true from by rw [qP E.out q];rfl);clear HV HD hLL h hp g v q;have j:8+sw.size<=9223372036854775807:=Z0;have o:8+sw.size+1<=9223372036854775807:=Z0;have p:8+sw.size+1+cm.size<=9223372036854775807:=Z0;exact zz8f8
     ·have v:(cZ++sw++(⟨#[32]⟩:ByteArray)++cm).size=8+sw.size+1+cm.size:=by rw [Yj,Yj,Yj];rfl
      have r:(253:Int)<((8+sw.size+1+cm.size:Nat):Int):=Z0;have u:(253:Int)<8+(sw.size:Int)+1+(cm.size:Int):=Z0;have hLL:iw (cZ++sw++(⟨#[32]⟩:ByteArray)++cm).data.toList=false:=by unfold iw;rw [hp,h,Y7 g];rfl
      have E:=hide (show bV L D=[] from ZI);have E2:=hide (show decide (lQ L D=0)=false from Xj);clear HV HD hLL h hp g v;have j:8+sw.size<=9223372036854775807:=Z0;have o:8+sw.size+1<=9223372036854775807:=Z0;have p:8+sw.size+1+cm.size<=9223372036854775807:=Z0;exact zz8f8
--END
end
def gY:List UInt8:=[99,117,114,118,101,50,53,53,49,57,45,115,104,97,50,53,54]
def iy:List UInt8:=[101,99,100,104,45,115,104,97,50,45,110,105,115,116,112,50,53,54]
def iV:List UInt8:=[100,105,102,102,105,101,45,104,101,108,108,109,97,110,45,103,114,111,117,112,45,101,120,99,104,97,110,103,101,45,115,104,97,50,53,54]
def bv (s:List UInt8):Int:=if s=gY then 1 else if s=iy then 2 else if s=iV then 3 else 0
def iq:Nat->List UInt8
 | 0=>[107,101,120]
 | 1=>[104,111,115,116]
 | 2=>[101,110,99,45,99]
 | 3=>[101,110,99,45,115]
 | 4=>[109,97,99,45,99]
 | 5=>[109,97,99,45,115]
 | 6=>[99,111,109,112,45,99]
 | 7=>[99,111,109,112,45,115]
 | _=>[]
def lC (l:List (List UInt8)):Bool:=(List.range l.length).all fun i=>!decide (l.getD i []∈l.take i)
theorem vU {i:Nat} (hi:i<l.length) (h:l[i]∈l.take i):lC l=false:=by
 unfold lC;rw [List.all_eq_false];refine ⟨i,List.mem_range.2 hi,?_⟩;rw [List.getD_eq_getElem?_getD,Y1 hi,Option.getD_some,Y8 h];decide
theorem ug (h:∀i,(hi:i<l.length)->l[i] ∉ l.take i):lC l=true:=by
 unfold lC;rw [List.all_eq_true];intro i hi;have hi2:=List.mem_range.1 hi;rw [List.getD_eq_getElem?_getD,Y1 hi2,Option.getD_some,Y7 (h i hi2)];rfl
def dG (l:List (List UInt8)):Int:=if l.length=0 then 6 else if 16<=l.length then 2 else if (lC l && l.all bA)=true then 0 else 3
def EE (l:List (List UInt8)):Bool:=l.all fun x=>!decide (bv x=0)
def dN (l:List (List UInt8)) (kex:Bool):Int:=if dG l≠0 then dG l else if kex=true/\EE l=false then 10 else 0
theorem zZ (h:l.length=0):dG l=6:=by unfold dG;rw [Y6 h]
theorem uQ (h:16<=l.length):dG l=2:=by unfold dG;rw [Y5 Z0,Y6 h]
theorem pu (g:l.length≠0) (h:¬ 16<=l.length) (j:(lC l && l.all bA)=false):dG l=3:=by unfold dG;rw [Y5 g,Y5 h,j];rfl
theorem qM (g:l.length≠0) (h:¬ 16<=l.length) (j:(lC l && l.all bA)=true):dG l=0:=by unfold dG;rw [Y5 g,Y5 h,Y6 j]
theorem lm {x:Int} (g:Bool) (h:dG l=x) (j:x≠0):dN l g=x:=by unfold dN;rw [h,Y6 j]
theorem G6 (h:dG l=0) (g:EE l=false):dN l true=10:=by unfold dN;rw [Y5 X4,Y6 ⟨rfl,g⟩]
theorem IY (h:dG l=0) (j:EE l=true) (g:Bool):dN l g=0:=by unfold dN;rw [Y5 X4,Y5 (by rw [j];rintro ⟨_,e⟩;cases e)]
theorem IM (h:dG l=0):dN l false=0:=by unfold dN;rw [Y5 X4,Y5 (by rintro ⟨e,_⟩;cases e)]
theorem qz {α:Type} {p:α->Bool} {l:List α} {x:α} (g:x∈l) (h:p x=false):l.all p=false:=by
 rw [List.all_eq_false];exact ⟨x,g,X4⟩
theorem ry (h:¬ 16<=l.length):bJ l=if l.all bA=true then 0 else 3:=by unfold bJ;rw [Y5 Z0]
theorem xD {w:World} (h:Txs w (.slice A ls.length c) ls) (F:k<=ls.length):Txs w (.slice A (ls.take k).length c) (ls.take k):=by
 obtain ⟨p,r,e,o⟩:=h;rw [Yd] at e o;obtain ⟨rfl,rfl⟩:A=p/\c=r:=by injection e with e1 _ e3;exact ⟨e1,e3⟩
 refine ⟨A,c,by rw [Yd],?_,fun D=>?_⟩
 ·simp
 ·rw [Yd,Yq] at D
  obtain ⟨q,v,z,B,C⟩:=o.2 Z0;refine ⟨q,v,z,B,fun j u g=>C j u ?_⟩;rw [List.map_take,List.map_take,List.getElem?_take] at g
  split at g
  ·exact g
  ·cases g
structure gL (w:World):Prop where
 c0:w.cell? ⟨0,0,none⟩=some (.string ⟨#[]⟩)
 c1:w.cell? ⟨0,1,none⟩=some (.string ⟨#[99,117,114,118,101,50,53,53,49,57,45,115,104,97,50,53,54]⟩)
 c2:w.cell? ⟨0,2,none⟩=some (.string ⟨#[101,99,100,104,45,115,104,97,50,45,110,105,115,116,112,50,53,54]⟩)
 c3:w.cell? ⟨0,3,none⟩=some (.string ⟨#[100,105,102,102,105,101,45,104,101,108,108,109,97,110,45,103,114,111,117,112,45,101,120,99,104,97,110,103,101,45,115,104,97,50,53,54]⟩)
structure iW (w:World):Prop where
 c0:w.cell? ⟨2,0,none⟩=some (.string ⟨#[107,101,120]⟩)
 c1:w.cell? ⟨2,1,none⟩=some (.string ⟨#[104,111,115,116]⟩)
 c2:w.cell? ⟨2,2,none⟩=some (.string ⟨#[101,110,99,45,99]⟩)
 c3:w.cell? ⟨2,3,none⟩=some (.string ⟨#[101,110,99,45,115]⟩)
 c4:w.cell? ⟨2,4,none⟩=some (.string ⟨#[109,97,99,45,99]⟩)
 c5:w.cell? ⟨2,5,none⟩=some (.string ⟨#[109,97,99,45,115]⟩)
 c6:w.cell? ⟨2,6,none⟩=some (.string ⟨#[99,111,109,112,45,99]⟩)
 c7:w.cell? ⟨2,7,none⟩=some (.string ⟨#[99,111,109,112,45,115]⟩)
theorem gL.below {w w':World} (h:gL w) (g:Below w.heap.size w w'):gL w' :=
 ⟨(g.cell (p:=⟨0,0,none⟩) (World.block_lt_of_cell? w _ h.c0)).trans h.c0,(g.cell (p:=⟨0,1,none⟩) (World.block_lt_of_cell? w _ h.c1)).trans h.c1,(g.cell (p:=⟨0,2,none⟩) (World.block_lt_of_cell? w _ h.c2)).trans h.c2,(g.cell (p:=⟨0,3,none⟩) (World.block_lt_of_cell? w _ h.c3)).trans h.c3⟩
theorem iW.below {w w':World} (h:iW w) (g:Below w.heap.size w w'):iW w' :=
 ⟨(g.cell (p:=⟨2,0,none⟩) (World.block_lt_of_cell? w _ h.c0)).trans h.c0,(g.cell (p:=⟨2,1,none⟩) (World.block_lt_of_cell? w _ h.c1)).trans h.c1,(g.cell (p:=⟨2,2,none⟩) (World.block_lt_of_cell? w _ h.c2)).trans h.c2,(g.cell (p:=⟨2,3,none⟩) (World.block_lt_of_cell? w _ h.c3)).trans h.c3,(g.cell (p:=⟨2,4,none⟩) (World.block_lt_of_cell? w _ h.c4)).trans h.c4,(g.cell (p:=⟨2,5,none⟩) (World.block_lt_of_cell? w _ h.c5)).trans h.c5,(g.cell (p:=⟨2,6,none⟩) (World.block_lt_of_cell? w _ h.c6)).trans h.c6,(g.cell (p:=⟨2,7,none⟩) (World.block_lt_of_cell? w _ h.c7)).trans h.c7⟩
section
variable {w : World}
theorem Cf (h:Txs w (.slice A ls.length c) ls) (F:ls.length<=c) (G:ls.length<=1000000) :
  Calls prog 287 #[.slice A ls.length c] w (fun e w'=>e=.returned (.bool (lC ls))/\w'=w):=by
 have HT:=hide (fun k (p:k<=ls.length) s=>Dj (xD h p) ZS s);obtain ⟨r,q,hv,o⟩:=h.open_;obtain ⟨rfl,rfl⟩:r=A/\q=c:=Z8;clear hv h;go_enter func287,ntmps287;go_wp2_with fail
 go_loop [7] (fun i=>∃k:Nat,k<=ls.length/\i=.int .i64 k/\Hid (∀i,(hi:i<ls.length)->i<k->ls[i] ∉ ls.take i)) (fun i=>ls.length - (intOf i).toNat)
 case atStart=>exact ⟨0,Yb _,rfl,hide (fun i hi u=>absurd u (Nat.not_lt_zero _))⟩
 case round =>
  obtain ⟨k,p,rfl,H⟩:=hrel
  by_cases hlt:k<ls.length
  ·obtain ⟨C,rfl,v,z⟩:=o k hlt
   have B:k<=q:=Z0;have j:=hide (HT.out k p ls[k]);rw [Yq,Nat.min_eq_left p] at j
   by_cases g:ls[k]∈ls.take k
   ·rw [Y8 g] at j
    have E:=hide (vU hlt g);clear g H HT o;go_wp2_with (go_at_call 129;refine j.out.mono ?_;rintro e w1 ⟨rfl,rfl⟩);go_ret;exact ⟨Zi,rfl⟩
   ·rw [Y7 g] at j
    have H2:=hide (show ∀i,(hi:i<ls.length)->i<k+1->ls[i] ∉ ls.take i from fun i hi D=>by
     by_cases e:i=k
     ·subst e;exact g
     ·exact H.out i hi Z0)
    clear g H HT o;go_wp2_with (go_at_call 129;refine j.out.mono ?_;rintro e w1 ⟨rfl,rfl⟩);exact zz4fa
  ·have E:=hide (ug (l:=ls) (fun i hi=>H.out i hi Z0))
   clear H HT o;go_wp2_with fail;go_ret;exact ⟨Zi,rfl⟩
theorem vI (s:List UInt8):(s=gY/\bv s=1)\/(s≠gY/\s=iy/\bv s=2)\/(s≠gY/\s≠iy/\s=iV/\bv s=3)\/(s≠gY/\s≠iy/\s≠iV/\bv s=0):=by
 unfold bv
 by_cases g:s=gY
 ·exact .inl ⟨g,Y6 g⟩
 ·by_cases h:s=iy
  ·exact .inr (.inl ⟨g,h,by rw [Y5 g,Y6 h]⟩)
  ·by_cases j:s=iV
   ·exact .inr (.inr (.inl ⟨g,h,j,by rw [Y5 g,Y5 h,Y6 j]⟩))
   ·exact .inr (.inr (.inr ⟨g,h,j,by rw [Y5 g,Y5 h,Y5 j]⟩))
theorem yO (h:s=gY):(([99,117,114,118,101,50,53,53,49,57,45,115,104,97,50,53,54]:List UInt8) == (bs s).toList)=true:=by rw [ay,h];exact beq_self_eq_true gY
theorem zK (h:s≠gY):(([99,117,114,118,101,50,53,53,49,57,45,115,104,97,50,53,54]:List UInt8) == (bs s).toList)=false:=Xy
theorem yY (h:s=iy):(([101,99,100,104,45,115,104,97,50,45,110,105,115,116,112,50,53,54]:List UInt8) == (bs s).toList)=true:=by rw [ay,h];exact beq_self_eq_true iy
theorem zD (h:s≠iy):(([101,99,100,104,45,115,104,97,50,45,110,105,115,116,112,50,53,54]:List UInt8) == (bs s).toList)=false:=Xy
theorem zJ (h:s=iV):(([100,105,102,102,105,101,45,104,101,108,108,109,97,110,45,103,114,111,117,112,45,101,120,99,104,97,110,103,101,45,115,104,97,50,53,54]:List UInt8) == (bs s).toList)=true:=by rw [ay,h];exact beq_self_eq_true iV
theorem zG (h:s≠iV):(([100,105,102,102,105,101,45,104,101,108,108,109,97,110,45,103,114,111,117,112,45,101,120,99,104,97,110,103,101,45,115,104,97,50,53,54]:List UInt8) == (bs s).toList)=false:=Xy
theorem BG (h:s=gY):((⟨#[99,117,114,118,101,50,53,53,49,57,45,115,104,97,50,53,54]⟩:ByteArray).toList == (bs s).toList)=true:=vT (by rw [h];rfl)
theorem Df (h:s≠gY):((⟨#[99,117,114,118,101,50,53,53,49,57,45,115,104,97,50,53,54]⟩:ByteArray).toList == (bs s).toList)=false:=eX (fun e=>h (sN (show bs s=bs gY from e.symm)))
theorem BR (h:s=iy):((⟨#[101,99,100,104,45,115,104,97,50,45,110,105,115,116,112,50,53,54]⟩:ByteArray).toList == (bs s).toList)=true:=vT (by rw [h];rfl)
theorem Dp (h:s≠iy):((⟨#[101,99,100,104,45,115,104,97,50,45,110,105,115,116,112,50,53,54]⟩:ByteArray).toList == (bs s).toList)=false:=eX (fun e=>h (sN (show bs s=bs iy from e.symm)))
theorem BI (h:s=iV):((⟨#[100,105,102,102,105,101,45,104,101,108,108,109,97,110,45,103,114,111,117,112,45,101,120,99,104,97,110,103,101,45,115,104,97,50,53,54]⟩:ByteArray).toList == (bs s).toList)=true:=vT (by rw [h];rfl)
theorem DD (h:s≠iV):((⟨#[100,105,102,102,105,101,45,104,101,108,108,109,97,110,45,103,114,111,117,112,45,101,120,99,104,97,110,103,101,45,115,104,97,50,53,54]⟩:ByteArray).toList == (bs s).toList)=false:=eX (fun e=>h (sN (show bs s=bs iV from e.symm)))
theorem TT (a b c d:ByteArray) (w:World):(Instr.index 231 (.agg #[.string a,.string b,.string c,.string d]) (.int .i64 0)).run prog w=.ok (.string a) w:=Z1
theorem Ul (a b c d:ByteArray) (w:World):(Instr.index 231 (.agg #[.string a,.string b,.string c,.string d]) (.int .i64 1)).run prog w=.ok (.string b) w:=Z1
theorem Ux (a b c d:ByteArray) (w:World):(Instr.index 231 (.agg #[.string a,.string b,.string c,.string d]) (.int .i64 2)).run prog w=.ok (.string c) w:=Z1
theorem UU (a b c d:ByteArray) (w:World):(Instr.index 231 (.agg #[.string a,.string b,.string c,.string d]) (.int .i64 3)).run prog w=.ok (.string d) w:=Z1
theorem zz69a (h_:p_:=by
 clear H HM hs;go_wp2_with fail;go_ret
 exact ⟨by rw [E.out];rfl,rfl⟩):p_:=h_
theorem zza1e (h_:p_:=by
 clear H hs;go_wp2_with fail;go_round
 case rel=>exact ⟨3,by decide,by go_num,H2⟩
 case measure=>simp [intOf]):p_:=h_
theorem zz042 (h_:p_:=by
 clear H hs;go_wp2_with fail;go_round
 case rel=>exact ⟨2,by decide,by go_num,H2⟩
 case measure=>simp [intOf]):p_:=h_
theorem zz905 (h_:p_:=by
 rcases HM.out with ⟨e,_⟩ | ⟨_,e,_⟩ | ⟨_,_,e,_⟩ | ⟨_,_,_,e⟩
 ·exact absurd e (H.out.1 (by decide))
 ·exact absurd e (H.out.2.1 (by decide))
 ·exact absurd e (H.out.2.2 (by decide))
 ·exact e):p_:=h_
theorem Gn (o:gL w) (s:List UInt8):Calls prog 304 #[.string (bs s)] w (fun e w'=>e=.returned (.int .i64 (bv s))/\w'=w):=by
 have q:=o.c0;have r:=o.c1;have u:=o.c2;have v:=o.c3;have HM:=hide (vI s);have z:=TT;have A:=Ul;have B:=Ux;have C:=UU;clear o;go_enter func304,ntmps304;go_wp2_with fail
 go_loop [6] (fun i=>∃k:Nat,k<=4/\i=.int .i64 k/\Hid ((2<=k->s≠gY)/\(3<=k->s≠iy)/\(4<=k->s≠iV))) (fun i=>4 - (intOf i).toNat)
 case atStart=>exact ⟨0,Yb _,rfl,hide ⟨fun h=>absurd h Z2,fun h=>absurd h Z2,fun h=>absurd h Z2⟩⟩
 case round =>
  obtain ⟨k,p,rfl,H⟩:=hrel
  match k,p with
  | 0,_ =>
   have H2:=hide (show (2<=1->s≠gY)/\(3<=1->s≠iy)/\(4<=1->s≠iV) from ⟨fun h=>absurd h Z2,fun h=>absurd h Z2,fun h=>absurd h Z2⟩);clear H HM;go_wp2_with fail;go_round
   case rel=>exact ⟨1,Z2,Zr,H2⟩
   case measure=>simp [intOf]
  | 1,_ =>
   by_cases hs:s=gY
   ·have E:=hide (show bv s=1 from by unfold bv;rw [Y6 hs])
    have g:=BG hs;have j:=yO hs;exact zz69a
   ·have H2:=hide (show (2<=2->s≠gY)/\(3<=2->s≠iy)/\(4<=2->s≠iV) from ⟨fun _=>hs,fun h=>absurd h Z2,fun h=>absurd h Z2⟩)
    have g:=Df hs;have j:=zK hs;exact zz042
  | 2,_ =>
   by_cases hs:s=iy
   ·have E:=hide (show bv s=2 from by unfold bv;rw [Y5 (H.out.1 Z2),Y6 hs])
    have g:=BR hs;have j:=yY hs;exact zz69a
   ·have H2:=hide (show (2<=3->s≠gY)/\(3<=3->s≠iy)/\(4<=3->s≠iV) from ⟨fun _=>H.out.1 Z2,fun _=>hs,fun h=>absurd h Z2⟩)
    have g:=Dp hs;have j:=zD hs;exact zza1e
  | 3,_ =>
   by_cases hs:s=iV
   ·have E:=hide (show bv s=3 from YW)
    have g:=BI hs;have j:=zJ hs;exact zz69a
   ·have H2:=hide (show (2<=4->s≠gY)/\(3<=4->s≠iy)/\(4<=4->s≠iV) from ⟨fun _=>H.out.1 Z2,fun _=>H.out.2.1 Z2,fun _=>hs⟩)
    have g:=DD hs;have j:=zG hs;clear H hs;go_wp2_with fail;go_round
    case rel=>exact ⟨4,Z2,Zr,H2⟩
    case measure=>simp [intOf]
  | 4,_ =>
   have E:=hide (show bv s=0 from by
    exact zz905)
   clear H HM;go_wp2_with fail;go_ret;exact ⟨Zi,rfl⟩
theorem zzeba (h_:p_:=by
 clear hW;go_enter func272,ntmps272;go_wp2_with fail;go_ret
 exact ⟨rfl,rfl⟩):p_:=h_
theorem JY (hW:iW w) (i:Nat) (hi:i<8):Calls prog 272 #[.int .i64 i] w (fun e w'=>e=.returned (.string (bs (iq i)))/\w'=w):=by
 match i,hi with
 | 0,_ =>
  have g:=hW.c0;exact zzeba
 | 1,_ =>
  have g:=hW.c1;exact zzeba
 | 2,_ =>
  have g:=hW.c2;exact zzeba
 | 3,_ =>
  have g:=hW.c3;exact zzeba
 | 4,_ =>
  have g:=hW.c4;exact zzeba
 | 5,_ =>
  have g:=hW.c5;exact zzeba
 | 6,_ =>
  have g:=hW.c6;exact zzeba
 | 7,_ =>
  have g:=hW.c7;exact zzeba
theorem FM (w:World):Calls prog 305 #[] w (fun e w'=>e=.returned (.slice (some ⟨w.heap.size,0,none⟩) 3 3)/\w'=w.alloc (.cells #[.string ⟨#[99,117,114,118,101,50,53,53,49,57,45,115,104,97,50,53,54]⟩,.string ⟨#[101,99,100,104,45,115,104,97,50,45,110,105,115,116,112,50,53,54]⟩,.string ⟨#[100,105,102,102,105,101,45,104,101,108,108,109,97,110,45,103,114,111,117,112,45,101,120,99,104,97,110,103,101,45,115,104,97,50,53,54]⟩] 9)):=by
 go_enter func305,ntmps305;go_wp2_with fail;go_ret;exact ⟨rfl,rfl⟩
theorem zz884 (h_:p_:=by
 go_wp2_with fail;go_ret
 exact ⟨by rw [E.out];rfl,HB.out⟩):p_:=h_
theorem Ce (s:List UInt8) (w:World):Calls prog 276 #[.string (bs s)] w (fun e w'=>e=.returned (.int .i64 (bv s))/\Below w.heap.size w w'):=by
 have HM:=hide (vI s)
 obtain ⟨W,hW⟩:∃W,W=w.alloc (.cells #[.string ⟨#[99,117,114,118,101,50,53,53,49,57,45,115,104,97,50,53,54]⟩,.string ⟨#[101,99,100,104,45,115,104,97,50,45,110,105,115,116,112,50,53,54]⟩,.string ⟨#[100,105,102,102,105,101,45,104,101,108,108,109,97,110,45,103,114,111,117,112,45,101,120,99,104,97,110,103,101,45,115,104,97,50,53,54]⟩] 9):=⟨_,rfl⟩
 have p:Below w.heap.size w W:=XE;have o:Blk W w.heap.size 9 #[.string ⟨#[99,117,114,118,101,50,53,53,49,57,45,115,104,97,50,53,54]⟩,.string ⟨#[101,99,100,104,45,115,104,97,50,45,110,105,115,116,112,50,53,54]⟩,.string ⟨#[100,105,102,102,105,101,45,104,101,108,108,109,97,110,45,103,114,111,117,112,45,101,120,99,104,97,110,103,101,45,115,104,97,50,53,54]⟩]:=by rw [hW];exact Blk.new w _ _
 have r:=o.cell 0;have u:=o.cell 1;have v:=o.cell 2;simp at r u v;have HB:=hide p;have A:=o.lt;have q:=hide (show Calls prog 305 #[] w (fun e w'=>e=.returned (.slice (some ⟨w.heap.size,0,none⟩) 3 3)/\w'=W) from by rw [hW];exact FM w);clear p o hW;go_enter func276,ntmps276;go_wp2_with (go_at_call 305;refine q.out.mono ?_;rintro e w1 ⟨rfl,rfl⟩)
 go_loop [4] (fun i=>∃k:Nat,k<=3/\i=.int .i64 k/\Hid ((1<=k->s≠gY)/\(2<=k->s≠iy)/\(3<=k->s≠iV))) (fun i=>3 - (intOf i).toNat)
 case atStart=>exact ⟨0,Yb _,rfl,hide ⟨fun h=>absurd h Z2,fun h=>absurd h Z2,fun h=>absurd h Z2⟩⟩
 case round =>
  obtain ⟨k,z,rfl,H⟩:=hrel
  match k,z with
  | 0,_ =>
   by_cases hs:s=gY
   ·have E:=hide (show bv s=1 from by unfold bv;rw [Y6 hs])
    have g:=BG hs;have j:=yO hs;clear H HM hs;exact zz884
   ·have H2:=hide (show (1<=1->s≠gY)/\(2<=1->s≠iy)/\(3<=1->s≠iV) from ⟨fun _=>hs,fun h=>absurd h Z2,fun h=>absurd h Z2⟩)
    have g:=Df hs;have j:=zK hs;clear H hs;go_wp2_with fail;go_round
    case rel=>exact ⟨1,Z2,Zr,H2⟩
    case measure=>simp [intOf]
  | 1,_ =>
   by_cases hs:s=iy
   ·have E:=hide (show bv s=2 from by unfold bv;rw [Y5 (H.out.1 Z2),Y6 hs])
    have g:=BR hs;have j:=yY hs;clear H HM hs;exact zz884
   ·have H2:=hide (show (1<=2->s≠gY)/\(2<=2->s≠iy)/\(3<=2->s≠iV) from ⟨fun _=>H.out.1 Z2,fun _=>hs,fun h=>absurd h Z2⟩)
    have g:=Dp hs;have j:=zD hs;exact zz042
  | 2,_ =>
   by_cases hs:s=iV
   ·have E:=hide (show bv s=3 from YW)
    have g:=BI hs;have j:=zJ hs;clear H HM hs;exact zz884
   ·have H2:=hide (show (1<=3->s≠gY)/\(2<=3->s≠iy)/\(3<=3->s≠iV) from ⟨fun _=>H.out.1 Z2,fun _=>H.out.2.1 Z2,fun _=>hs⟩)
    have g:=DD hs;have j:=zG hs;exact zza1e
  | 3,_ =>
   have E:=hide (show bv s=0 from by
    exact zz905)
   clear H HM;exact zz884
theorem zzda8 (h_:p_:=by
 go_enter func151,ntmps151;go_upto_region 2 with fail;rw [<-hW];clear hW;go_wp2_with fail;go_ret
 exact ⟨rfl,HB.out⟩):p_:=h_
theorem zl (i:Nat) (hi:i<8) (w:World):Calls prog 151 #[.int .i64 i] w (fun e w'=>e=.returned (.string (bs (iq i)))/\Below w.heap.size w w'):=by
 obtain ⟨W,hW⟩:∃W,W=w.alloc (.cells #[.string ⟨#[107,101,120]⟩,.string ⟨#[104,111,115,116]⟩,.string ⟨#[101,110,99,45,99]⟩,.string ⟨#[101,110,99,45,115]⟩,.string ⟨#[109,97,99,45,99]⟩,.string ⟨#[109,97,99,45,115]⟩,.string ⟨#[99,111,109,112,45,99]⟩,.string ⟨#[99,111,109,112,45,115]⟩] 9):=⟨_,rfl⟩
 have h:Below w.heap.size w W:=XE;have g:Blk W w.heap.size 9 #[.string ⟨#[107,101,120]⟩,.string ⟨#[104,111,115,116]⟩,.string ⟨#[101,110,99,45,99]⟩,.string ⟨#[101,110,99,45,115]⟩,.string ⟨#[109,97,99,45,99]⟩,.string ⟨#[109,97,99,45,115]⟩,.string ⟨#[99,111,109,112,45,99]⟩,.string ⟨#[99,111,109,112,45,115]⟩]:=by rw [hW];exact Blk.new w _ _
 have j:=g.cell 0;have o:=g.cell 1;have p:=g.cell 2;have q:=g.cell 3;have r:=g.cell 4;have u:=g.cell 5;have v:=g.cell 6;have z:=g.cell 7;simp at j o p q r u v z;have HB:=hide h;have A:=g.lt;clear h g
 match i,hi with
 | 0,_ =>
  exact zzda8
 | 1,_ =>
  exact zzda8
 | 2,_ =>
  exact zzda8
 | 3,_ =>
  exact zzda8
 | 4,_ =>
  exact zzda8
 | 5,_ =>
  exact zzda8
 | 6,_ =>
  exact zzda8
 | 7,_ =>
  exact zzda8
end
end Go.Proofs.YtnhekaepgpbijaaGreatDoor
namespace Go.Proofs.YtnhekaepgpbijaaGreatDoor
open Go.Proofs.Tryz Go.ChangeShapes Go.WideShapes Go.ChangeAt Go.RowKit
theorem E5:(Rows.laid_internal_strconv_uint64pow10:DataW Unit)=Lib.tabData .u64 Lib.pow10Tab:=Z1
theorem BV {a b:String × DataW Unit} {l:List (String × DataW Unit)} {W:World} (h:laidMet prog (a :: b :: ("internal/strconv.uint64pow10",Rows.laid_internal_strconv_uint64pow10) :: l) W):Tab W:=by
 have h:=laidMet.tail (laidMet.tail h);rw [E5] at h;exact Lib.tabIs_of_head (g:=3) Z1 Z1 underlying363 underlying321 Z1 Z1 h
end Go.Proofs.YtnhekaepgpbijaaGreatDoor
namespace Go.Proofs.YtnhekaepgpbijaaGreatDoor
open Go.Proofs.Tryz Go.RowKit Go.ChangeShapes Go.WideShapes Go.ChangeAt
variable {W:World}
theorem bS {H:Type} {enc:TypeId × Value->H} {w:World} {base:Nat} {q:Nat->Bool} {j:Bool} {g:Nat} {c:Value} {y:DataW H × List MemPlace}
  (h:DataW.trod enc prog w base q j g 9 [c]=some y):∃s:ByteArray,c=.string s/\y=(.lit (.string s.data.toList),[]):=by
 obtain ⟨s,o,p,_⟩:=DataW.trod_string underlying9 h;simp only [List.cons.injEq,and_true] at o;exact ⟨s,o,p⟩
theorem dE {s:ByteArray} {l:List UInt8} (h:s.data.toList=l):s=⟨l.toArray⟩:=by rw [<-h,Lib.mk_data]
theorem RP (h:Lib.VarReads prog W "shibboleth/prefs.methods" Rows.laid_shibboleth_prefs_methods):gL W:=by
 obtain ⟨g,t,cs,j,p,K,N,q,hd⟩:=h;have o:prog.globalNamed "shibboleth/prefs.methods" = some 0:=Z1;have w:(prog.globals[0]?).map (·.type)=some 231:=Z1;have u:prog.cellsOf 231=4:=Z1;have v:prog.cellsOf 9=1:=Z1;obtain rfl:=Y9 (o.symm.trans K);obtain rfl:=Y9 (w.symm.trans N)
 have key:cs=#[.string ⟨#[]⟩,.string ⟨#[99,117,114,118,101,50,53,53,49,57,45,115,104,97,50,53,54]⟩,.string ⟨#[101,99,100,104,45,115,104,97,50,45,110,105,115,116,112,50,53,54]⟩,.string ⟨#[100,105,102,102,105,101,45,104,101,108,108,109,97,110,45,103,114,111,117,112,45,101,120,99,104,97,110,103,101,45,115,104,97,50,53,54]⟩]:=by
  obtain ⟨l⟩:=cs
  cases j with
  | zero=>simp [DataW.trod] at hd
  | succ j =>
   simp only [DataW.trod,underlying231,u,v] at hd
   split at hd
   ·rename_i L
    obtain ⟨c0,c1,c2,c3,rfl⟩:∃c0 c1 c2 c3,l=[c0,c1,c2,c3]:=by
     match l,L with
     | [x0,x1,x2,x3],_=>exact ⟨x0,x1,x2,x3,rfl⟩
    have e:List.range 4=[0,1,2,3]:=rfl;rw [e] at hd;simp only [Option.map_eq_some_iff,List.mapM_cons,List.mapM_nil,Option.bind_eq_bind,Option.bind_eq_some_iff,Option.pure_def,Option.some.injEq] at hd;obtain ⟨O,⟨P,F,_,⟨Q,G,_,⟨R,I,_,⟨S,J,_,rfl,rfl⟩,rfl⟩,rfl⟩,rfl⟩,z⟩:=hd;obtain ⟨n0,rfl,rfl⟩:=bS F;obtain ⟨n1,rfl,rfl⟩:=bS G;obtain ⟨n2,rfl,rfl⟩:=bS I;obtain ⟨n3,rfl,rfl⟩:=bS J;simp [Rows.laid_shibboleth_prefs_methods] at z;obtain ⟨⟨A,B,C,D⟩,_⟩:=z;rw [show n0=⟨#[]⟩ from by cases n0;simpa using A,dE B,dE C,dE D]
   ·cases hd
 subst key;have r:=fun i=>World.var?_cell o q i
 exact ⟨by simpa using r 0,by simpa using r 1,by simpa using r 2,by simpa using r 3⟩
theorem RF (h:Lib.VarReads prog W "shibboleth/prefs.words" Rows.laid_shibboleth_prefs_words):iW W:=by
 obtain ⟨g,t,cs,j,p,T,V,r,hd⟩:=h;have q:prog.globalNamed "shibboleth/prefs.words" = some 2:=Z1;have w:(prog.globals[2]?).map (·.type)=some 352:=Z1;have u:prog.cellsOf 352=8:=Z1;have v:prog.cellsOf 9=1:=Z1;obtain rfl:=Y9 (q.symm.trans T);obtain rfl:=Y9 (w.symm.trans V)
 have key:cs=#[.string ⟨#[107,101,120]⟩,.string ⟨#[104,111,115,116]⟩,.string ⟨#[101,110,99,45,99]⟩,.string ⟨#[101,110,99,45,115]⟩,.string ⟨#[109,97,99,45,99]⟩,.string ⟨#[109,97,99,45,115]⟩,.string ⟨#[99,111,109,112,45,99]⟩,.string ⟨#[99,111,109,112,45,115]⟩]:=by
  obtain ⟨l⟩:=cs
  cases j with
  | zero=>simp [DataW.trod] at hd
  | succ j =>
   simp only [DataW.trod,underlying352,u,v] at hd
   split at hd
   ·rename_i U
    obtain ⟨c0,c1,c2,c3,c4,c5,c6,c7,rfl⟩:∃c0 c1 c2 c3 c4 c5 c6 c7,l=[c0,c1,c2,c3,c4,c5,c6,c7]:=by
     match l,U with
     | [x0,x1,x2,x3,x4,x5,x6,x7],_=>exact ⟨x0,x1,x2,x3,x4,x5,x6,x7,rfl⟩
    have e:List.range 8=[0,1,2,3,4,5,6,7]:=rfl;rw [e] at hd;simp only [Option.map_eq_some_iff,List.mapM_cons,List.mapM_nil,Option.bind_eq_bind,Option.bind_eq_some_iff,Option.pure_def,Option.some.injEq] at hd;obtain ⟨X,⟨Y,K,_,⟨Z,L,_,⟨y2,N,_,⟨y3,O,_,⟨y4,P,_,⟨y5,Q,_,⟨y6,R,_,⟨y7,S,_,rfl,rfl⟩,rfl⟩,rfl⟩,rfl⟩,rfl⟩,rfl⟩,rfl⟩,rfl⟩,z⟩:=hd;obtain ⟨n0,rfl,rfl⟩:=bS K;obtain ⟨n1,rfl,rfl⟩:=bS L;obtain ⟨n2,rfl,rfl⟩:=bS N;obtain ⟨n3,rfl,rfl⟩:=bS O;obtain ⟨n4,rfl,rfl⟩:=bS P;obtain ⟨n5,rfl,rfl⟩:=bS Q;obtain ⟨n6,rfl,rfl⟩:=bS R;obtain ⟨n7,rfl,rfl⟩:=bS S;simp [Rows.laid_shibboleth_prefs_words] at z;obtain ⟨⟨A,B,C,D,F,G,I,J⟩,_⟩:=z;rw [dE A,dE B,dE C,dE D,dE F,dE G,dE I,dE J]
   ·cases hd
 subst key;have o:=fun i=>World.var?_cell q r i
 exact ⟨by simpa using o 0,by simpa using o 1,by simpa using o 2,by simpa using o 3,by simpa using o 4,by simpa using o 5,by simpa using o 6,by simpa using o 7⟩
end Go.Proofs.YtnhekaepgpbijaaGreatDoor
namespace Go.Proofs.YtnhekaepgpbijaaGreatDoor
open Go.Proofs.Tryz Go.RowKit Go.ChangeShapes
theorem yh {H:Type} {enc:TypeId × Value->H} {a:Assume} {C:Checked} {os:Os} {f:FuncId} {o:Func} {s:ChangeSpec} {cs:List PathCond} {x1 x2 I J:Bool} {X:World->Array Value->Prop}
  (L:∀(w w':World) (args:Array Value),w.heap=w'.heap->X w args->X w' args) (own:ownKnob C.prog.godebug=none) (h:os.Started) (N:C.prog.inits.idxOf? f=none) (A:C.prog.funcs[f]?=some o)
  (F:∃(w:World) (tape:Tape) (i:Input),w.os=os/\(w.forCall tape i).Shaped C.prog/\i.vars=[]/\Input.okWide C.prog (w.forCall tape i) .any w.heap.size f i /\
   ((s.pre enc C.prog o cs x1 (w.forCall tape i).memory i.args/\X (w.forCall tape i).memory i.args)/\sizedMet enc C.prog o (OpenSpec.ofChange s) x1 (w.forCall tape i).memory i.args)/\a.holds C.prog (lone (Frame.enter C.prog f i.args .normal) [] (w.forCall tape i)))
  (r:∀(W:World) (base:Nat) (args:Array Value) (u gs:List (DataW H)) (g:List MemPlace),(∀(j:Nat) t v,o.params[j]?=some t->args[j]?=some v->Value.okWide C.prog W .any base t v) ->
   DataW.Whole enc C.prog o.params.toList s.vars x1 W args.toList u gs g->X W args->W.ShapedOpen C.prog ->
   Calls C.prog f args W fun e G=>∃v,e=.returned v/\s.post enc C.prog o x1 x2 I J W args v G) :
  ReturnsInHanded a C os f .any (fun w args=>(s.pre enc C.prog o cs x1 w args/\X w args)/\sizedMet enc C.prog o (OpenSpec.ofChange s) x1 w args) (s.post enc C.prog o x1 x2 I J) :=
 returnsInHanded_of_calls own h N F fun w tape i _ D _ B p _=>by
  obtain ⟨_,_,_,z,K,_,_,_,_,q⟩:=B;obtain rfl:z=o:=Y9 (K.symm.trans A);obtain ⟨u,gs,g,hw,_⟩:=p.1.1;have key:=r (w.forCall tape i) w.heap.size i.args u gs g q (DataW.Whole.of_heap (w':=w.forCall tape i) Z5 hw) (L _ _ _ Z5 p.1.2) D;refine key.mono fun e G he=>?_
  obtain ⟨v,rfl,hp⟩:=he;exact ChangeSpec.post_blind hp
theorem QU {W:World} (h:W.ShapedOpen prog):kH W :=
 cell_of_shapedOpen_int (g:=4) (t:=3) (zero:=#[.int .i64 0]) h Z7 Z1 rfl Z1 Z1 underlying3
end Go.Proofs.YtnhekaepgpbijaaGreatDoor
namespace Go.Proofs.YtnhekaepgpbijaaGreatDoor
open Go.Proofs.Tryz Go.ChangeShapes Go.WideShapes Go.ChangeAt Go.RowKit
variable {W:World}
def pR:List (String × DataW Unit):=[("math/bits.deBruijn32tab",Rows.laid_math_bits_deBruijn32tab),("math/bits.deBruijn64tab",Rows.laid_math_bits_deBruijn64tab),("internal/strconv.uint64pow10",Rows.laid_internal_strconv_uint64pow10),("unicode/utf8.acceptRanges",Rows.laid_unicode_utf8_acceptRanges),("shibboleth/prefs.methods",Rows.laid_shibboleth_prefs_methods),("shibboleth/prefs.words",Rows.laid_shibboleth_prefs_words),("unicode/utf8.first",Rows.laid_unicode_utf8_first)]
def TK:List (String × DataW Unit):=[("errors.errorType",Rows.laid_errors_errorType)]
def TH:List (String × DataW Unit):=[("math/bits.deBruijn32tab",Rows.laid_math_bits_deBruijn32tab),("math/bits.deBruijn64tab",Rows.laid_math_bits_deBruijn64tab),("internal/strconv.uint64pow10",Rows.laid_internal_strconv_uint64pow10),("unicode/utf8.acceptRanges",Rows.laid_unicode_utf8_acceptRanges),("errors.errorType",Rows.laid_errors_errorType),("shibboleth/prefs.methods",Rows.laid_shibboleth_prefs_methods),("shibboleth/prefs.words",Rows.laid_shibboleth_prefs_words),("unicode/utf8.first",Rows.laid_unicode_utf8_first)]
theorem Vm:prog.globalNamed "errors.errorType" = some 1:=Z1
theorem VI:(prog.cutTypes.find? (·.1 == "internal/reflectlite.rtype")).map (·.2)=some 331:=Z1
theorem Sm:prog.types.size=427:=Z1
theorem Ka:((List.range 427).filter fun t=>prog.rowNamed t [101,114,114,111,114])=[41]:=Z1
theorem Fp (h:laidMetH prog TH W):laidMet prog pR W/\handlesMet prog TK W:=h
theorem Bw (h:handlesMet prog TK W):Hand W:=by
 obtain ⟨g,u,A,p,q,r,v,j⟩:=h _ (Ym.2 rfl);have w:g=[101,114,114,111,114]:=(Y9 p).symm;subst w;obtain rfl:=Y9 (VI.symm.trans q);have o:A∈(List.range 427).filter fun t=>prog.rowNamed t [101,114,114,111,114]:=List.mem_filter.2 ⟨List.mem_range.2 (by rw [<-Sm];exact r),v⟩
 rw [Ka] at o;obtain rfl:=Ym.1 o;have z:typeHandle prog 41=.pointer (some ⟨9,41,none⟩):=Z1;rw [z] at j;unfold Hand;simpa using World.var?_cell Vm j 0
noncomputable def Tk (os:Os):World :=
 let w0:=World.holding prog os ⟨#[],#[],[]⟩
 { w0 with heap:=w0.heap.modify 1 fun
   | .cells _ t frozen=>.cells #[.iface 331 (.agg #[.pointer (some ⟨9,41,none⟩)])] t frozen
   | o=>o }
noncomputable def mD (os:Os):World:=(Tk os).layVars prog pR
theorem Aw (os:Os):(mD os).os=os:=(World.layVars_os _ _ _).trans rfl
theorem sW (os:Os):(mD os).Shaped prog:=World.shaped_of_ZipB Z1 Z1
theorem Jr (os:Os):laidMet prog pR (mD os):=by
 have g:(pR.filter fun x=>(pR.map (·.1)).contains x.1)=pR:=List.filter_eq_self.2 fun x h=>List.contains_iff_mem.2 (List.mem_map.2 ⟨x,h,rfl⟩)
 have j:(pR.filter fun x=>!(pR.map (·.1)).contains x.1)=[]:=List.filter_eq_nil_iff.2 fun x h=>by rw [List.contains_iff_mem.2 (List.mem_map.2 ⟨x,h,rfl⟩)];simp
 exact laidMet_layVars (w0:=Tk os) (pR.map (·.1)) [] (by rw [g];rfl) (by rw [g];kernel_rfl) (by rw [g];kernel_rfl) (by rw [j];exact LaidIn.none)
theorem yj (os:Os) (args:Array Value):laidMetH prog TH ((mD os).forCall (fun _ _=>0) ⟨#[],args,[]⟩).memory :=
 laidMetH_of_parts ((Jr os).of_heap (by simp [World.memory,World.forCall,Input.heap])) Z1
end Go.Proofs.YtnhekaepgpbijaaGreatDoor
