/- Several of my texts in one: WholeA, RdW, RdX, PutM, PutN, RPut, CfD, RRd. -/
import Derived.Test.YtnhekaepgpbijaaGreatDoorKAli
import Derived.Test.YtnhekaepgpbijaaGreatDoorKChnG
import Derived.Test.YtnhekaepgpbijaaGreatDoorKSortAG
import Derived.Test.YtnhekaepgpbijaaGreatDoorKKxPGG
import Derived.Deep.RegionHeld3
import Derived.Deep.DeepCutAuto
import Derived.Test.YtnhekaepgpbijaaGreatDoorKCardCG
set_option linter.unusedVariables false
set_option linter.unusedSimpArgs false
set_option maxHeartbeats 40000000
set_option maxRecDepth 100000
namespace Go.Proofs.YtnhekaepgpbijaaGreatDoor
open Go.Proofs.Tryz Go.RowKit Go.ChangeShapes Go.WideShapes
variable {p_:Prop} {s:ByteArray}
section
variable {w : World}
theorem p9 (l:List UInt8) (w:World):Calls prog 236 #[.string (bs l)] w (Says (aY l) w):=by
 have HT:=hide (fun W=>Tryz.strings_TrimLeft_one (bs l) 0 Z2 W);go_enter func236,ntmps236;go_wp2_with (go_at_call 277;refine (HT.out _).mono ?_;rintro e w1 ⟨rfl,rfl⟩);go_ret;exact ⟨rfl,Z4⟩
theorem rH (l:List UInt8) (w:World) (h:l.length<4294967296):Calls prog 203 #[.string (bs l)] w (Says (q4 l.length++l) w):=by
 have j:(l.length:Int)<4294967296:=Z0;go_enter func203,ntmps203;go_wp2_with (go_at_call 200;refine (xm l.length _ h).mono ?_;rintro e w1 ⟨rfl,g⟩);go_ret;exact ⟨rfl,g⟩
theorem sG (s:ByteArray) (w:World) (g:s.size<4294967296):Calls prog 203 #[.string s] w (Says (q4 s.size++s.data.toList) w):=rH s.data.toList w g
theorem Cj (c:UInt8) (r:List UInt8):(bs (c :: r)).toList.isEmpty=false:=by
 rw [ay];rfl
theorem zz16e (h_:p_:=by
 go_enter func201,ntmps201
 go_wp2_with (first
  | (go_at_call 236;refine (HP.out _).mono ?_;rintro e w1 ⟨rfl,hb1⟩)
  | (go_at_call 203;refine (HT.out _).mono ?_;rintro e w2 ⟨rfl,hb2⟩))
 go_ret
 exact ⟨rfl,by exact ae⟩):p_:=h_
theorem Gh (g:ByteArray) (w:World) (D:g.size<=1000000):Calls prog 201 #[.string g] w (Says (dY g.data.toList) w):=by
 have HP:=hide (fun W=>p9 g.data.toList W);rw [show bs g.data.toList=g from rfl] at HP;have v:=kK g.data.toList;have B:=aC g;unfold dY;generalize aY g.data.toList=m at HP v ⊢
 cases m with
 | nil =>
  have HT:=hide (fun W=>sG ⟨#[]⟩ W Z2);have HP:=hide (fun W=>(show Calls prog 236 #[.string g] W (fun e w'=>e=.returned (.string ⟨#[]⟩)/\Below W.heap.size W w') from HP.out W));exact zz16e
 | cons c r =>
  have A:=hide (Cj c r);have HP:=hide (fun W=>(show Calls prog 236 #[.string g] W (fun e w'=>e=.returned (.string (bs (c :: r)))/\Below W.heap.size W w') from HP.out W));have C:0<(bs (c :: r)).size:=X6;have o:(bs (c :: r)).size<=1000000:=ZJ;have u:(bs (c :: r))[0].toNat=c.toNat:=rfl;have hd:(bs (c :: r)).data.toList=c :: r:=rfl;have HT:=hide (fun W=>sG (bs (c :: r)) W (by rw [aI] at o ⊢;omega));have j:=hide (fun W=>sG (⟨#[0]⟩++bs (c :: r)) W (by rw [Yj];rw [aI] at o ⊢;have:(⟨#[0]⟩:ByteArray).size=1:=rfl;omega));have q:=hide (show ((⟨#[0]⟩:ByteArray)++bs (c :: r)).data.toList=0 :: c :: r by rw [data_append];rfl);generalize bs (c :: r)=s at HP A C o u hd HT j q;have F:=c.toNat_lt;have he:=A.out
  by_cases h:128<=c.toNat
  ·rw [show dW (c :: r)=0 :: c :: r from Y6 h]
   have hb1:(128:Int)<=(s[0].toNat:Int):=Z0
   have p:(Says (q4 ((⟨#[0]⟩:ByteArray)++s).size++((⟨#[0]⟩:ByteArray)++s).data.toList))=Says (q4 (0 :: c :: r).length++0 :: c :: r):=by
    rw [<-q.out];rfl
   rw [<-p];generalize (q4 ((⟨#[0]⟩:ByteArray)++s).size++((⟨#[0]⟩:ByteArray)++s).data.toList)=z at j ⊢;clear u hd p v q;go_enter func201,ntmps201
   go_wp2_with (first
    | (go_at_call 236;refine (HP.out _).mono ?_;rintro e w1 ⟨rfl,hb1⟩)
    | (go_at_call 203;refine (j.out _).mono ?_;rintro e w2 ⟨rfl,hb2⟩))
   go_ret;exact ⟨rfl,Z4⟩
  ·rw [show dW (c :: r)=c :: r from Y5 h]
   have hb1:¬ (128:Int)<=(s[0].toNat:Int):=Z0
   have p:(Says (q4 s.size++s.data.toList))=Says (q4 (c :: r).length++c :: r):=by
    rw [<-hd];rfl
   rw [<-p];generalize (q4 s.size++s.data.toList)=z at HT ⊢;clear u hd p v q;exact zz16e
theorem Kq (j:0<s.size) (h:s[0].toNat=0):aY (s.extract 1 s.size).data.toList=aY s.data.toList:=by
 have g:s.data.toList=s[0] :: s.data.toList.drop 1:=by
  exact fF (s:=s.data.toList) (p:=0) j
 have hs:s[0]=0:=UInt8.toNat_inj.1 h;rw [Lib.extract_data,Yp XJ]
 conv=>rhs;rw [g,hs]
 rfl
theorem LD (j:0<s.size) (h:s[0].toNat≠0):aY s.data.toList=s.data.toList:=by
 refine iT ?_
 have g:s.data.toList=s[0] :: s.data.toList.drop 1:=by
  exact fF (s:=s.data.toList) (p:=0) j
 rw [g];show (s[0] == 0)=false;rw [Y3];intro e;rw [e] at h;exact h rfl
theorem M4 (s:ByteArray) (g:0<s.size):(s.extract 1 s.size).size=s.size - 1:=by
 show (s.extract 1 s.size).data.toList.length=_;rw [Lib.extract_data,Yp XJ,Yu];rfl
def Tw (v:Value):Nat:=match v with
 | .string s=>s.size
 | _=>0
theorem qh (h:ByteArray) (w:World) (r:h.size<=1000000):Calls prog 124 #[.string h] w (Says (aY h.data.toList) w):=by
 go_enter func124,ntmps124;go_wp2_with fail
 go_loopw [0] (fun v wr=>wr=w/\∃s:ByteArray,v=.string s/\Hid (aY s.data.toList=aY h.data.toList)/\s.size<=1000000) (fun v _=>Tw v)
 case atStart=>exact ⟨rfl,h,rfl,hide rfl,r⟩
 case round =>
  obtain ⟨rfl,s,rfl,hp,z⟩:=hrel
  by_cases o:0<s.size
  ·have p:(0:Int)<s.size:=by omega
   have u:=s[0].toNat_lt
   by_cases q:s[0].toNat=0
   ·have g:=hide ((Kq o q).trans hp.out)
    have A:=M4 s o;have j:(s[0].toNat:Int)=0:=Z0;clear hp;go_wp2;refine ⟨⟨trivial,s.extract 1 s.size,Zr,g,Z0⟩,by simp [Tw];omega⟩
   ·have g:=hide ((LD o q).symm.trans hp.out)
    have j:¬ (s[0].toNat:Int)=0:=Z0;clear hp;go_wp2;go_ret;exact ⟨by rw [<-g.out];rfl,Z4⟩
  ·have p:¬ (0:Int)<s.size:=by omega
   have hs:s=⟨#[]⟩:=by
    have:s.data.toList=[]:=Yc ZP;exact toList_inj this
   subst hs;go_wp2;go_ret;exact ⟨by rw [<-hp.out];rfl,Z4⟩
end
section
variable {w : World}
theorem iO (s:ByteArray) (w:World) (h:s.size<4294967296):Calls prog 126 #[.string s] w (Says (q4 s.size++s.data.toList) w):=by
 have H:=hide (fun W=>kJ s.size W h);have j:s.size<=4294967296:=Z0;go_enter func126,ntmps126;go_wp2_with (go_at_call 87;refine (H.out _).mono ?_;rintro e w1 ⟨rfl,g⟩);go_ret;exact ⟨zR (by rw [data_append,aO]),g⟩
theorem oZ (n:Nat) (w:World) (g:n<256):Calls prog 73 #[.int .u8 n] w (Says [UInt8.ofNat n] w):=by
 go_enter func73,ntmps73;go_wp2_with fail;go_ret;exact ⟨rfl,Z4⟩
theorem zz44e (h_:p_:=by
 go_enter func125,ntmps125
 go_wp2_with (first
  | (go_at_call 124;refine (HP.out _).mono ?_;rintro e w1 ⟨rfl,hb1⟩)
  | (go_at_call 126;refine (HT.out _).mono ?_;rintro e w2 ⟨rfl,hb2⟩))
 go_ret
 exact ⟨rfl,by exact ae⟩):p_:=h_
theorem xL (h:ByteArray) (w:World) (B:h.size<=1000000):Calls prog 125 #[.string h] w (Says (dY h.data.toList) w):=by
 have HP:=hide (fun W=>qh h W B);have v:=kK h.data.toList;have C:=aC h;unfold dY;generalize aY h.data.toList=m at HP v ⊢
 cases m with
 | nil =>
  have HT:=hide (fun W=>iO ⟨#[]⟩ W Z2);have HP:=hide (fun W=>(show Calls prog 124 #[.string h] W (fun e w'=>e=.returned (.string ⟨#[]⟩)/\Below W.heap.size W w') from HP.out W));exact zz44e
 | cons c r =>
  have HP:=hide (fun W=>(show Calls prog 124 #[.string h] W (fun e w'=>e=.returned (.string (bs (c :: r)))/\Below W.heap.size W w') from HP.out W));have D:0<(bs (c :: r)).size:=X6;have A:(0:Int)<(bs (c :: r)).size:=Z0;have g:(bs (c :: r)).size<=1000000:=ZJ;have u:(bs (c :: r))[0].toNat=c.toNat:=rfl;have hd:(bs (c :: r)).data.toList=c :: r:=rfl;have HB:=hide (fun W=>oZ 0 W Z2);have HT:=hide (fun W=>iO (bs (c :: r)) W (by rw [aI] at g ⊢;omega));have o:=hide (fun W=>iO (bs [UInt8.ofNat 0]++bs (c :: r)) W (by rw [Yj,aI];rw [aI] at g ⊢;simp at g ⊢;omega));have q:=hide (show (bs [UInt8.ofNat 0]++bs (c :: r)).data.toList=0 :: c :: r by rw [data_append];rfl);generalize bs (c :: r)=s at HP D A g u hd HT o q;have F:=c.toNat_lt
  by_cases j:128<=c.toNat
  ·rw [show dW (c :: r)=0 :: c :: r from Y6 j]
   have hb1:(127:Int)<(s[0].toNat:Int):=Z0
   have p:(Says (q4 (bs [UInt8.ofNat 0]++s).size++(bs [UInt8.ofNat 0]++s).data.toList))=Says (q4 (0 :: c :: r).length++0 :: c :: r):=by
    rw [<-q.out];rfl
   rw [<-p];generalize (q4 (bs [UInt8.ofNat 0]++s).size++(bs [UInt8.ofNat 0]++s).data.toList)=z at o ⊢;clear u hd p v q;go_enter func125,ntmps125
   go_wp2_with (first
    | (go_at_call 124;refine (HP.out _).mono ?_;rintro e w1 ⟨rfl,hb1⟩)
    | (go_at_call 73;refine (HB.out _).mono ?_;rintro e w3 ⟨rfl,hb3⟩)
    | (go_at_call 126;refine (o.out _).mono ?_;rintro e w2 ⟨rfl,hb2⟩))
   go_ret;exact ⟨rfl,Z4⟩
  ·rw [show dW (c :: r)=c :: r from Y5 j]
   have hb1:¬ (127:Int)<(s[0].toNat:Int):=Z0
   have p:(Says (q4 s.size++s.data.toList))=Says (q4 (c :: r).length++c :: r):=by
    rw [<-hd];rfl
   rw [<-p];generalize (q4 s.size++s.data.toList)=z at HT ⊢;clear u hd p v q;exact zz44e
end
end Go.Proofs.YtnhekaepgpbijaaGreatDoor
namespace Go.Proofs.YtnhekaepgpbijaaGreatDoor
open Go.Proofs.Tryz Go.RowKit Go.ChangeShapes Go.WideShapes Go.Sort
variable {w':World} {e:Int} {p_:Prop} {R:ByteArray->World->Prop} {l ls:List (List UInt8)} {A:Option Addr} {c i:Nat}
def tJ (l:List UInt8):Nat:=l.foldl (fun a b=>a*256 % 4294967296+b.toNat) 0
theorem JU (l:List UInt8) (b:UInt8):tJ (l++[b])=tJ l*256 % 4294967296+b.toNat:=by
 unfold tJ;rw [List.foldl_append];rfl
theorem G9 (l:List UInt8):tJ l<4294967296:=by
 have h:∀(l:List UInt8) (a:Nat),a<4294967296->l.foldl (fun a b=>a*256 % 4294967296+b.toNat) a<4294967296:=by
  intro l
  induction l with
  | nil=>exact fun a h=>h
  | cons b l ih =>
   intro a _;refine ih _ ?_;have:=b.toNat_lt;show a*256 % 4294967296+b.toNat<4294967296;omega
 exact h l 0 Z0
theorem Vy (l:List UInt8) (h:l.length=4):tJ l=n4 l:=by
 match l,h with
 | [x,y,z,u],_ =>
  have j:=x.toNat_lt;have o:=y.toNat_lt;have q:=z.toNat_lt;have r:=u.toNat_lt;simp only [tJ,n4,List.foldl_cons,List.foldl_nil];omega
theorem TY (y b:Nat) (q:b<256):bits .or .u32 ((y:Int)*256 % 4294967296) ((b:Int) % 4294967296)=((y*256 % 4294967296+b:Nat):Int):=by
 have h:((y:Int)*256 % 4294967296)=((y*256 % 4294967296:Nat):Int):=Z0;have j:((b:Int) % 4294967296)=((b:Nat):Int):=Z0;rw [h,j,u32_or_nat _ _ Z0 Z0];have o:y*256 % 4294967296=(y % 16777216) <<< 8:=by rw [Nat.shiftLeft_eq];omega
 rw [o,Nat.shiftLeft_add_eq_or_of_lt Z0]
theorem lq (s:ByteArray) (w:World) (hs:s.size<=9223372036854775807):Calls prog 234 #[.string s] w fun e w'=>e=.returned (.int .u32 (tJ s.data.toList))/\w'=w:=by
 go_enter func234,ntmps234;go_wp2
 go_loop [3,7] (fun v i=>∃k y:Nat,y<4294967296/\k<=s.size/\i=.int .i64 k/\v=.int .u32 y/\Hid (y=tJ (s.data.toList.take k))) (fun _ i=>s.size - (intOf i).toNat)
 case atStart=>exact ⟨0,0,Z0,Yb _,rfl,rfl,hide rfl⟩
 case round =>
  obtain ⟨k,y,r,q,rfl,rfl,H⟩:=hrel
  by_cases h:k<s.size
  ·have j:=hide (TY y s[k].toNat s[k].toNat_lt)
   go_wp2;rw [j.out];go_round
   case rel =>
    refine ⟨k+1,_,?_,h,Zr,rfl,hide ?_⟩
    ·have:=s[k].toNat_lt
     omega
    ·rw [H.out]
     have o:k<s.data.toList.length:=h;rw [Yh o,JU];rfl
   case measure=>simp [intOf];omega
  ·go_wp2
   go_ret;exact ⟨oN (by rw [H.out,Yp (by show s.size<=k;omega)]),rfl⟩
def Rdr (w:World) (g:Nat) (s:ByteArray) (p:Nat) (e:Int):Prop:=Blk w g 237 #[.string s,.int .i64 p,.int .i64 e]
theorem Rdr.below {w:World} {g:Nat} {s:ByteArray} {p:Nat} (h:Rdr w g s p e) (j:Below w.heap.size w w'):Rdr w' g s p e:=Blk.below h j (Blk.lt h)
theorem PP (s:ByteArray) (w:World):Calls prog 91 #[.string s] w fun e w'=>e=.returned (.pointer (some ⟨w.heap.size,0,none⟩))/\Rdr w' w.heap.size s 0 0/\Below w.heap.size w w':=by
 go_enter func91,ntmps91;go_wp2;go_ret;exact ⟨rfl,Blk.new _ _ _,Z4⟩
section
variable {w : World} {g p : Nat} {s : ByteArray} {x : Int}
theorem bE (h:Rdr w g s p x):Calls prog 163 #[.pointer (some ⟨g,0,none⟩)] w fun e w'=>e=.returned (.int .i64 x)/\w'=w:=by
 have j:w.cell? ⟨g,2,none⟩=some (.int .i64 x):=Blk.cell h 2;go_enter func163,ntmps163;go_wp2;go_ret;exact ⟨rfl,rfl⟩
theorem dh (h:Rdr w g s p x) (hp:p<=s.size) (hs:s.size<=1000000):Calls prog 165 #[.pointer (some ⟨g,0,none⟩)] w fun e w'=>e=.returned (.int .i64 ((s.size:Int) - p))/\∃n,w'=w.drewN n:=by
 have j:w.cell? ⟨g,0,none⟩=some (.string s):=Blk.cell h 0;have o:w.cell? ⟨g,1,none⟩=some (.int .i64 p):=Blk.cell h 1;go_enter func165,ntmps165;go_wp2;go_quiet (fail);go_wp2;go_ret;exact ⟨rfl,_,rfl⟩
end
theorem xI (s:ByteArray) (w:World):Calls prog 235 #[.string s] w fun e w'=>e=.returned (.bool true)/\w'=w:=by
 go_enter func235,ntmps235;go_wp2;go_ret;exact ⟨rfl,rfl⟩
theorem Mo (s:ByteArray) (hs:s.size=1) (w:World):Calls prog 233 #[.string s] w fun e w'=>e=.returned (.bool (decide (s[0].toNat<=1)))/\w'=w:=by
 have o:0<s.size:=Z0
 have j:(decide ((s[0].toNat:Int)<=1))=decide (s[0].toNat<=1):=by
  rw [Bool.eq_iff_iff];simp only [Yw];omega
 generalize decide (s[0].toNat<=1)=b at j
 by_cases q:s[0].toNat<=1
 ·have h:(s[0].toNat:Int)<=1:=by omega
  rw [Y8 h] at j;subst j;go_enter func233,ntmps233;go_wp2_with fail;go_ret;exact ⟨rfl,rfl⟩
 ·have h:¬ (s[0].toNat:Int)<=1:=by omega
  rw [Y7 h] at j;subst j;go_enter func233,ntmps233;go_wp2_with fail;go_ret;exact ⟨rfl,rfl⟩
theorem zzf46 (h_:p_:=by
 go_enter func238,ntmps238;go_wp2_with fail;go_ret
 exact ⟨by rw [E.out];rfl,rfl⟩):p_:=h_
theorem Ev (s:ByteArray) (hs:s.size<=1000000) (w:World):Calls prog 238 #[.string s] w fun e w'=>e=.returned (.bool (dP s.data.toList))/\w'=w:=by
 by_cases A:s=⟨#[]⟩
 ·subst A
  go_enter func238,ntmps238;go_wp2_with fail;go_ret;exact ⟨rfl,rfl⟩
 ·have N:=eX A
  have F:=iJ A
  obtain ⟨l,rfl⟩:∃l,s=bs l:=⟨s.data.toList,rfl⟩
  have h:(bs l).size=l.length:=rfl;rw [aO]
  cases l with
  | nil=>exact absurd rfl A
  | cons c r =>
   have G:0<(bs (c :: r)).size:=by rw [h];simp
   have j:(bs (c :: r))[0]=c:=rfl;have J:=c.toNat_lt
   by_cases o:128<=c.toNat
   ·have B:(128:Int)<=(bs (c :: r))[0].toNat:=by rw [j];omega
    have E:=hide (show dP (c :: r)=false by simp [dP,o]);exact zzf46
   ·have B:¬ (128:Int)<=(bs (c :: r))[0].toNat:=by rw [j];omega
    by_cases u:c.toNat=0
    ·have C:(((bs (c :: r))[0].toNat:Int) == 0)=true:=by rw [j,u];rfl
     cases r with
     | nil =>
      have K:¬ (1:Int)<(bs [c]).size:=by rw [h];simp
      have E:=hide (show dP [c]=false by simp [dP,o,u]);clear j;exact zzf46
     | cons d q =>
      have K:(1:Int)<(bs (c :: d :: q)).size:=by rw [h];simp;omega
      have L:1<(bs (c :: d :: q)).size:=by rw [h];simp
      have z:(bs (c :: d :: q))[1]=d:=rfl
      by_cases D:128<=d.toNat
      ·have v:(128:Int)<=(bs (c :: d :: q))[1].toNat:=by rw [z];omega
       have E:=hide (show dP (c :: d :: q)=true by simp [dP,o,u,D]);clear j z;exact zzf46
      ·have v:¬ (128:Int)<=(bs (c :: d :: q))[1].toNat:=by rw [z];omega
       have E:=hide (show dP (c :: d :: q)=false by simp [dP,o,u,D]);have I:=Y7 v;clear j z;exact zzf46
    ·have C:(((bs (c :: r))[0].toNat:Int) == 0)=false:=by rw [j,Y3];omega
     have E:=hide (show dP (c :: r)=true by simp [dP,o,u]);clear j;exact zzf46
def qE (w:World) (g:Nat) (s:ByteArray) (t:ByteArray) (p':Nat) (x':Int) (e:Ending) (w':World):Prop:=e=.returned (.string t)/\Rdr w' g s p' x'/\w.grownBy w' (some g)
section
variable {w : World} {g p k n : Nat} {s : ByteArray} {x : Int}

theorem La (h:Rdr w g s p x) (j:(x == 0)=false) (m q:Int):Calls prog 232 #[.pointer (some ⟨g,0,none⟩),.int .i64 m,.int .i64 q,.func (.func 235) #[] #[]] w (qE w g s ⟨#[]⟩ p x):=by
 go_enter func232,ntmps232;go_wp2_with fail;refine (bE h).mono ?_;rintro e w1 ⟨rfl,rfl⟩;go_wp2_with fail;go_ret;exact ⟨rfl,h,az _ _⟩
theorem zz8c2 (h_:p_:=by
 have f1:w.frozen? ⟨g,2,none⟩=false:=Blk.frozen h 2;have h2:w.cell? ⟨g,2,none⟩=some (.int .i64 0):=Blk.cell h 2;have i1:¬ (n:Int)<0:=by omega
 have i2:(s.size:Int) - p<(k:Int)+n:=by omega
 go_enter func232,ntmps232;go_wp2_with fail;refine (bE h).mono ?_;rintro e w1 ⟨rfl,rfl⟩;go_wp2_with (go_at_call 165;refine (dh h hp hs).mono ?_;rintro e w2 ⟨rfl,m2,rfl⟩);go_ret;refine ⟨rfl,?_,ah (aL (az _ _) _) (.inl rfl) _⟩
 exact Blk.set_ (Blk.drewN h _) 2 _):p_:=h_
theorem lD (h:Rdr w g s p 0) (hs:s.size<=1000000) (hp:p<=s.size) (o:k<=4) (q:n<4294967296) (j:s.size<p+k+n) :
  Calls prog 232 #[.pointer (some ⟨g,0,none⟩),.int .i64 k,.int .i64 n,.func (.func 235) #[] #[]] w (qE w g s ⟨#[]⟩ p 4):=by
 exact zz8c2
theorem zz68b (h_:p_:=by
 go_ret;refine ⟨rfl,?_,ah (aL (az _ _) _) (.inl rfl) _⟩;have e:((p+k+n:Nat):Int)=(p:Int)+((k:Int)+n):=by omega
 rw [Rdr,e]
 exact Blk.set_ (Blk.drewN h _) 1 _):p_:=h_
theorem rU (h:Rdr w g s p 0) (hs:s.size<=1000000) (j:p+k+n<=s.size) (o:Hid (∀W,Calls prog 235 #[.string (s.extract (p+k) (p+k+n))] W fun e w'=>e=.returned (.bool true)/\w'=W)) :
  Calls prog 232 #[.pointer (some ⟨g,0,none⟩),.int .i64 k,.int .i64 n,.func (.func 235) #[] #[]] w (qE w g s (s.extract (p+k) (p+k+n)) (p+k+n) 0):=by
 have q:w.cell? ⟨g,0,none⟩=some (.string s):=Blk.cell h 0;have r:w.cell? ⟨g,1,none⟩=some (.int .i64 p):=Blk.cell h 1;have f1:w.frozen? ⟨g,1,none⟩=false:=Blk.frozen h 1;go_enter func232,ntmps232;go_wp2_with fail;refine (bE h).mono ?_;rintro e w1 ⟨rfl,rfl⟩;go_wp2_with (go_at_call 165;refine (dh h Z0 hs).mono ?_;rintro e w2 ⟨rfl,u,rfl⟩);go_quiet (fail);go_wp2_with (go_at_call 235;refine (o.out _).mono ?_;rintro e w3 ⟨rfl,rfl⟩);exact zz68b

theorem DX (h:Rdr w g s p 0) (hs:s.size<=1000000) (hp:p<=s.size) (o:k<=4) (q:n<4294967296) (j:s.size<p+k+n) :
  Calls prog 232 #[.pointer (some ⟨g,0,none⟩),.int .i64 k,.int .i64 n,.func (.func 233) #[] #[]] w (qE w g s ⟨#[]⟩ p 4):=by
 exact zz8c2
theorem KZ (h:Rdr w g s p 0) (hs:s.size<=1000000) (j:p+k+n<=s.size) (o:Hid (∀W,Calls prog 233 #[.string (s.extract (p+k) (p+k+n))] W fun e w'=>e=.returned (.bool false)/\w'=W)) :
  Calls prog 232 #[.pointer (some ⟨g,0,none⟩),.int .i64 k,.int .i64 n,.func (.func 233) #[] #[]] w (qE w g s ⟨#[]⟩ p 3):=by
 have q:w.cell? ⟨g,0,none⟩=some (.string s):=Blk.cell h 0;have r:w.cell? ⟨g,1,none⟩=some (.int .i64 p):=Blk.cell h 1;have f1:w.frozen? ⟨g,2,none⟩=false:=Blk.frozen h 2;have u:w.cell? ⟨g,2,none⟩=some (.int .i64 0):=Blk.cell h 2;go_enter func232,ntmps232;go_wp2_with fail;refine (bE h).mono ?_;rintro e w1 ⟨rfl,rfl⟩;go_wp2_with (go_at_call 165;refine (dh h Z0 hs).mono ?_;rintro e w2 ⟨rfl,v,rfl⟩);go_quiet (fail);go_wp2_with (go_at_call 233;refine (o.out _).mono ?_;rintro e w3 ⟨rfl,rfl⟩);go_ret;refine ⟨rfl,?_,ah (aL (az _ _) _) (.inl rfl) _⟩;exact Blk.set_ (Blk.drewN h _) 2 _
theorem KD (h:Rdr w g s p 0) (hs:s.size<=1000000) (j:p+k+n<=s.size) (o:Hid (∀W,Calls prog 233 #[.string (s.extract (p+k) (p+k+n))] W fun e w'=>e=.returned (.bool true)/\w'=W)) :
  Calls prog 232 #[.pointer (some ⟨g,0,none⟩),.int .i64 k,.int .i64 n,.func (.func 233) #[] #[]] w (qE w g s (s.extract (p+k) (p+k+n)) (p+k+n) 0):=by
 have q:w.cell? ⟨g,0,none⟩=some (.string s):=Blk.cell h 0;have r:w.cell? ⟨g,1,none⟩=some (.int .i64 p):=Blk.cell h 1;have f1:w.frozen? ⟨g,1,none⟩=false:=Blk.frozen h 1;go_enter func232,ntmps232;go_wp2_with fail;refine (bE h).mono ?_;rintro e w1 ⟨rfl,rfl⟩;go_wp2_with (go_at_call 165;refine (dh h Z0 hs).mono ?_;rintro e w2 ⟨rfl,u,rfl⟩);go_quiet (fail);go_wp2_with (go_at_call 233;refine (o.out _).mono ?_;rintro e w3 ⟨rfl,rfl⟩);exact zz68b

theorem BZ (h:Rdr w g s p 0) (hs:s.size<=1000000) (hp:p<=s.size) (o:k<=4) (q:n<4294967296) (j:s.size<p+k+n) :
  Calls prog 232 #[.pointer (some ⟨g,0,none⟩),.int .i64 k,.int .i64 n,.func (.func 238) #[] #[]] w (qE w g s ⟨#[]⟩ p 4):=by
 exact zz8c2
theorem J7 (h:Rdr w g s p 0) (hs:s.size<=1000000) (j:p+k+n<=s.size) (o:Hid (∀W,Calls prog 238 #[.string (s.extract (p+k) (p+k+n))] W fun e w'=>e=.returned (.bool false)/\w'=W)) :
  Calls prog 232 #[.pointer (some ⟨g,0,none⟩),.int .i64 k,.int .i64 n,.func (.func 238) #[] #[]] w (qE w g s ⟨#[]⟩ p 3):=by
 have q:w.cell? ⟨g,0,none⟩=some (.string s):=Blk.cell h 0;have r:w.cell? ⟨g,1,none⟩=some (.int .i64 p):=Blk.cell h 1;have f1:w.frozen? ⟨g,2,none⟩=false:=Blk.frozen h 2;have u:w.cell? ⟨g,2,none⟩=some (.int .i64 0):=Blk.cell h 2;go_enter func232,ntmps232;go_wp2_with fail;refine (bE h).mono ?_;rintro e w1 ⟨rfl,rfl⟩;go_wp2_with (go_at_call 165;refine (dh h Z0 hs).mono ?_;rintro e w2 ⟨rfl,v,rfl⟩);go_quiet (fail);go_wp2_with (go_at_call 238;refine (o.out _).mono ?_;rintro e w3 ⟨rfl,rfl⟩);go_ret;refine ⟨rfl,?_,ah (aL (az _ _) _) (.inl rfl) _⟩;exact Blk.set_ (Blk.drewN h _) 2 _
theorem Jh (h:Rdr w g s p 0) (hs:s.size<=1000000) (j:p+k+n<=s.size) (o:Hid (∀W,Calls prog 238 #[.string (s.extract (p+k) (p+k+n))] W fun e w'=>e=.returned (.bool true)/\w'=W)) :
  Calls prog 232 #[.pointer (some ⟨g,0,none⟩),.int .i64 k,.int .i64 n,.func (.func 238) #[] #[]] w (qE w g s (s.extract (p+k) (p+k+n)) (p+k+n) 0):=by
 have q:w.cell? ⟨g,0,none⟩=some (.string s):=Blk.cell h 0;have r:w.cell? ⟨g,1,none⟩=some (.int .i64 p):=Blk.cell h 1;have f1:w.frozen? ⟨g,1,none⟩=false:=Blk.frozen h 1;go_enter func232,ntmps232;go_wp2_with fail;refine (bE h).mono ?_;rintro e w1 ⟨rfl,rfl⟩;go_wp2_with (go_at_call 165;refine (dh h Z0 hs).mono ?_;rintro e w2 ⟨rfl,u,rfl⟩);go_quiet (fail);go_wp2_with (go_at_call 238;refine (o.out _).mono ?_;rintro e w3 ⟨rfl,rfl⟩);exact zz68b

theorem Ki (h:Rdr w g s p x) (j:(x == 0)=false):Calls prog 237 #[.pointer (some ⟨g,0,none⟩),.func (.func 235) #[] #[]] w (qE w g s ⟨#[]⟩ p x):=by
 have r:(x != 0)=true:=by simp only [bne,j,Bool.not_false]
 go_enter func237,ntmps237;go_wp2_with fail;refine (bE h).mono ?_;rintro e w1 ⟨rfl,rfl⟩;go_wp2_with fail;refine (La h j 0 4).mono ?_;rintro e w2 ⟨rfl,q,o⟩;go_wp2_with fail;go_ret;exact ⟨rfl,q,o⟩
theorem zzf39 (h_:p_:=by
 have i2:(s.size:Int) - p<4:=by omega
 go_enter func237,ntmps237;go_wp2_with fail;refine (bE h).mono ?_;rintro e w1 ⟨rfl,rfl⟩;go_wp2_with (go_at_call 165;refine (dh h hp hs).mono ?_;rintro e w2 ⟨rfl,m2,rfl⟩);have h2:Rdr (w1.drewN m2) g s p 0:=Blk.drewN h _;refine (lD (k:=0) (n:=4) h2 hs hp (by omega) (by omega) (by omega)).mono ?_;rintro e w3 ⟨rfl,hr,ho⟩;go_wp2_with fail;go_ret
 exact ⟨rfl,hr,aj (aL (az _ _) _) ho⟩):p_:=h_
theorem Gc (h:Rdr w g s p 0) (hs:s.size<=1000000) (hp:p<=s.size) (j:s.size<p+4):Calls prog 237 #[.pointer (some ⟨g,0,none⟩),.func (.func 235) #[] #[]] w (qE w g s ⟨#[]⟩ p 4):=by
 exact zzf39
theorem zz035 (h_:p_:=by
 have h0:w.cell? ⟨g,0,none⟩=some (.string s):=Blk.cell h 0;have h1:w.cell? ⟨g,1,none⟩=some (.int .i64 p):=Blk.cell h 1;have i2:¬ (s.size:Int) - p<4:=by omega
 have hnl:(s.extract p (p+4)).size<=9223372036854775807:=by rw [ByteArray.size_extract];omega
 have HN:=hide (fun W=>lq (s.extract p (p+4)) W hnl);have hq:=G9 (s.extract p (p+4)).data.toList;generalize tJ (s.extract p (p+4)).data.toList=q at HN HT hq;have hq2:(q:Int)<4294967296:=by omega
 have HX:=hide (Y4 hfit hs);have hwp:IntKind.i64.wrap ((p:Int)+4)=((p+4:Nat):Int):=by rw [wrap_small _ (by omega) (by omega)];omega
 have hw:IntKind.i64.wrap (q:Int)=q:=wrap_small _ (by omega) (by omega);clear hnl hq hq2;go_enter func237,ntmps237;go_wp2_with fail;refine (bE h).mono ?_;rintro e w1 ⟨rfl,rfl⟩
 go_upto_region 3 with (go_at_call 165;refine (dh h (by have:=HX.out;omega) hs).mono ?_;rintro e w2 ⟨rfl,m2,rfl⟩)
 go_quiet ((go_at_call 234;exact (HN.out _).mono fun _ _ h9=>⟨h9.1,_,h9.2⟩));go_wp2_with fail;refine (HT.out _ (Blk.drewN h _) (aL (az _ _) _)).mono ?_;rintro e w3 ⟨t,rfl,hQ⟩;go_wp2_with fail;go_ret
 exact ⟨t,rfl,hQ⟩):p_:=h_
theorem Ct (h:Rdr w g s p 0) (hs:s.size<=1000000) (hfit:p+4<=s.size)
  (HT:Hid (∀W,Rdr W g s p 0->w.grownBy W (some g)->Calls prog 232 #[.pointer (some ⟨g,0,none⟩),.int .i64 4,.int .i64 (tJ (s.extract p (p+4)).data.toList),.func (.func 235) #[] #[]] W (fun e w'=>∃t,e=.returned (.string t)/\R t w'))) :
  Calls prog 237 #[.pointer (some ⟨g,0,none⟩),.func (.func 235) #[] #[]] w (fun e w'=>∃t,e=.returned (.string t)/\R t w'):=by
 exact zz035

theorem Ee (h:Rdr w g s p 0) (hs:s.size<=1000000) (hp:p<=s.size) (j:s.size<p+4):Calls prog 237 #[.pointer (some ⟨g,0,none⟩),.func (.func 238) #[] #[]] w (qE w g s ⟨#[]⟩ p 4):=by
 exact zzf39
theorem xn (h:Rdr w g s p 0) (hs:s.size<=1000000) (hfit:p+4<=s.size)
  (HT:Hid (∀W,Rdr W g s p 0->w.grownBy W (some g)->Calls prog 232 #[.pointer (some ⟨g,0,none⟩),.int .i64 4,.int .i64 (tJ (s.extract p (p+4)).data.toList),.func (.func 238) #[] #[]] W (fun e w'=>∃t,e=.returned (.string t)/\R t w'))) :
  Calls prog 237 #[.pointer (some ⟨g,0,none⟩),.func (.func 238) #[] #[]] w (fun e w'=>∃t,e=.returned (.string t)/\R t w'):=by
 exact zz035

theorem Ji (h:Rdr w g s p 0):Calls prog 232 #[.pointer (some ⟨g,0,none⟩),.int .i64 0,.int .i64 (-1),.func (.func 235) #[] #[]] w (qE w g s ⟨#[]⟩ p 4):=by
 have f1:w.frozen? ⟨g,2,none⟩=false:=Blk.frozen h 2;have j:w.cell? ⟨g,2,none⟩=some (.int .i64 0):=Blk.cell h 2;go_enter func232,ntmps232;go_wp2_with fail;refine (bE h).mono ?_;rintro e w1 ⟨rfl,rfl⟩;go_wp2_with fail;go_ret;refine ⟨rfl,?_,ah (az _ _) (.inl rfl) _⟩;exact Blk.set_ h 2 _

end
def FU {α:Type} (f:α->Value) (z:Value) (R:Res α) (w:World) (g:Nat) (s:ByteArray) (p:Nat) (e:Ending) (w':World):Prop :=
 (∃a p',R=.ok a (s.data.toList.drop p')/\e=.returned (f a)/\Rdr w' g s p' 0/\p'<=s.size/\w.grownBy w' (some g)) \/
 (∃x:Nat,R=.no x/\x≠0/\e=.returned z/\Rdr w' g s p x/\w.grownBy w' (some g))
theorem mR (s:ByteArray) (a n:Nat):s.extract a (a+n)=bs ((s.data.toList.drop a).take n):=by
 apply kG;have:=Lib.extract_data s a (a+n);rw [this];congr 1;omega
theorem AC {l:List UInt8} (h:4<=l.length):n4 (l.take 4)=n4 l:=by
 match l,h with
 | x :: y :: z :: u :: q,_=>rfl
 | [],h=>simp at h
 | [_],h=>simp at h
 | [_,_],h=>simp at h
 | [_,_,_],h=>simp at h
theorem wE {s:ByteArray} {p:Nat} (h:p+4<=s.size):tJ (s.extract p (p+4)).data.toList=n4 (s.data.toList.drop p):=by
 have j:4<=(s.data.toList.drop p).length:=by
  rw [Yu];show 4<=s.size - p;omega
 rw [mR,aO,Vy _ ZS,AC j]
theorem kP (s:ByteArray) (p:Nat):(s.data.toList.drop p).length=s.size - p:=by
 rw [Yu];rfl
theorem oh {r:List UInt8} (h:r.length<4):dA r=.no 4:=by
 unfold dA;rw [Y6 h]
theorem qa {r:List UInt8} (h:¬ r.length<4) (j:r.length - 4<n4 r):dA r=.no 4:=by
 unfold dA;rw [Y5 h,Y6 j]
theorem tQ {r:List UInt8} (h:¬ r.length<4) (j:¬ r.length - 4<n4 r):dA r=.ok ((r.drop 4).take (n4 r)) (r.drop (4+n4 r)):=by
 unfold dA;rw [Y5 h,Y5 j]
def Ae (r:List UInt8):Res (List UInt8):=match dA r with
 | .no e=>.no e
 | .ok s r'=>if dP s=true then .ok s r' else .no 3
theorem Ih {r:List UInt8} {e:Nat} (h:dA r=.no e):Ae r=.no e:=by
 unfold Ae;rw [h]
theorem Rl {r s j:List UInt8} (h:dA r=.ok s j) (o:dP s=true):Ae r=.ok s j:=by
 unfold Ae;rw [h];simp only [o,if_true]
theorem Qh {r s o:List UInt8} (h:dA r=.ok s o) (j:dP s=false):Ae r=.no 3:=by
 unfold Ae;rw [h];simp [j]
theorem FI (r:List UInt8):ig r=(Ae r).map aY:=by
 unfold ig Ae
 cases dA r with
 | no e=>rfl
 | ok s r' =>
  simp only
  split <;> rfl
def pE (l:List UInt8):Nat:=if l=[] then 0 else 3
section
variable {w : World} {g p : Nat} {s : ByteArray} {x : Int}
theorem zza5b (h_:p_:=by
 rintro e w' ⟨rfl,hr,ho⟩
 exact ⟨_,rfl,rfl,hr,aj hG ho⟩):p_:=h_
theorem Fz (h:Rdr w g s p 0) (hs:s.size<=1000000) (hp:p<=s.size):Calls prog 237 #[.pointer (some ⟨g,0,none⟩),.func (.func 235) #[] #[]] w (FU (fun l=>.string (bs l)) (.string ⟨#[]⟩) (dA (s.data.toList.drop p)) w g s p):=by
 have A:=kP s p
 by_cases v:s.size<p+4
 ·refine (Gc h hs hp v).mono ?_
  rintro e w' ⟨rfl,hr,ho⟩;exact .inr ⟨4,oh Z0,Z2,rfl,hr,ho⟩
 ·have r:=wE (s:=s) (p:=p) Z0
  have q:=jG (s.data.toList.drop p);have j:¬ (s.data.toList.drop p).length<4:=Z0
  by_cases z:s.size<p+4+n4 (s.data.toList.drop p)
  ·refine (Ct (R:=fun t w'=>t=⟨#[]⟩/\Rdr w' g s p 4/\w.grownBy w' (some g)) h hs Z0 (hide (fun W o hG=>?_))).mono ?_
   ·rw [r]
    refine (lD (k:=4) o hs hp Z0 q z).mono ?_;exact zza5b
   ·rintro e w' ⟨t,rfl,rfl,hr,ho⟩
    exact .inr ⟨4,qa j Z0,Z2,rfl,hr,ho⟩
  ·have B:=tQ j (by omega:¬ (s.data.toList.drop p).length - 4<n4 (s.data.toList.drop p))
   refine (Ct (R:=fun t w'=>t=bs (((s.data.toList.drop p).drop 4).take (n4 (s.data.toList.drop p)))/\Rdr w' g s (p+4+n4 (s.data.toList.drop p)) 0/\w.grownBy w' (some g)) h hs Z0 (hide (fun W o hG=>?_))).mono ?_
   ·rw [r]
    refine (rU (k:=4) o hs Z0 (hide (fun u=>xI _ u))).mono ?_;rintro e w' ⟨rfl,hr,ho⟩;exact ⟨_,rfl,by rw [mR,Yr],hr,aj hG ho⟩
   ·rintro e w' ⟨t,rfl,rfl,hr,ho⟩
    refine .inl ⟨_,_,?_,rfl,hr,Z0,ho⟩;rw [B];simp only [Yr,Nat.add_assoc]
theorem JM (h:Rdr w g s p 0) (hs:s.size<=1000000) (hp:p<=s.size):Calls prog 237 #[.pointer (some ⟨g,0,none⟩),.func (.func 238) #[] #[]] w (FU (fun l=>.string (bs l)) (.string ⟨#[]⟩) (Ae (s.data.toList.drop p)) w g s p):=by
 have G:=kP s p
 by_cases D:s.size<p+4
 ·refine (Ee h hs hp D).mono ?_
  rintro e w' ⟨rfl,hr,ho⟩;exact .inr ⟨4,Ih (oh Z0),Z2,rfl,hr,ho⟩
 ·have z:=wE (s:=s) (p:=p) Z0
  have v:=jG (s.data.toList.drop p);have r:¬ (s.data.toList.drop p).length<4:=Z0
  by_cases F:s.size<p+4+n4 (s.data.toList.drop p)
  ·refine (xn (R:=fun t w'=>t=⟨#[]⟩/\Rdr w' g s p 4/\w.grownBy w' (some g)) h hs Z0 (hide (fun W q hG=>?_))).mono ?_
   ·rw [z]
    refine (BZ (k:=4) q hs hp Z0 v F).mono ?_;exact zza5b
   ·rintro e w' ⟨t,rfl,rfl,hr,ho⟩
    exact .inr ⟨4,Ih (qa r Z0),Z2,rfl,hr,ho⟩
  ·have B:=tQ r (by omega:¬ (s.data.toList.drop p).length - 4<n4 (s.data.toList.drop p))
   have j:s.extract (p+4) (p+4+n4 (s.data.toList.drop p))=bs (((s.data.toList.drop p).drop 4).take (n4 (s.data.toList.drop p))):=by rw [mR,Yr]
   have A:(s.extract (p+4) (p+4+n4 (s.data.toList.drop p))).size<=1000000:=by rw [ByteArray.size_extract];omega
   have o:=hide (fun C=>Ev (s.extract (p+4) (p+4+n4 (s.data.toList.drop p))) A C);rw [j,aO,<- j] at o
   cases u:dP (((s.data.toList.drop p).drop 4).take (n4 (s.data.toList.drop p))) with
   | true =>
    rw [u] at o;refine (xn (R:=fun t w'=>t=bs (((s.data.toList.drop p).drop 4).take (n4 (s.data.toList.drop p)))/\Rdr w' g s (p+4+n4 (s.data.toList.drop p)) 0/\w.grownBy w' (some g)) h hs Z0 (hide (fun W q hG=>?_))).mono ?_
    ·rw [z]
     refine (Jh (k:=4) q hs Z0 o).mono ?_;rintro e w' ⟨rfl,hr,ho⟩;exact ⟨_,rfl,j,hr,aj hG ho⟩
    ·rintro e w' ⟨t,rfl,rfl,hr,ho⟩
     refine .inl ⟨_,_,?_,rfl,hr,Z0,ho⟩;rw [Rl B u];simp only [Yr,Nat.add_assoc]
   | false =>
    rw [u] at o;refine (xn (R:=fun t w'=>t=⟨#[]⟩/\Rdr w' g s p 3/\w.grownBy w' (some g)) h hs Z0 (hide (fun W q hG=>?_))).mono ?_
    ·rw [z]
     refine (J7 (k:=4) q hs Z0 o).mono ?_;exact zza5b
    ·rintro e w' ⟨t,rfl,rfl,hr,ho⟩
     exact .inr ⟨3,Qh B u,Z2,rfl,hr,ho⟩
theorem qg (h:Rdr w g s p 0) (hs:s.size<=1000000) (hp:p<=s.size):Calls prog 160 #[.pointer (some ⟨g,0,none⟩)] w (FU (fun l=>.string (bs l)) (.string ⟨#[]⟩) (dA (s.data.toList.drop p)) w g s p):=by
 have H:=hide (Fz h hs hp);clear h;go_enter func160,ntmps160;go_wp2_with fail;refine H.out.mono ?_;rintro e w1 (⟨a,u,j,rfl,o,q,r⟩ | ⟨x,j,o,rfl,q,r⟩)
 ·go_wp2_with fail
  go_ret;exact .inl ⟨a,u,j,rfl,o,q,r⟩
 ·go_wp2_with fail
  go_ret;exact .inr ⟨x,j,o,rfl,q,r⟩
theorem Ga (h:Rdr w g s p x) (q:(x == 0)=false):Calls prog 160 #[.pointer (some ⟨g,0,none⟩)] w (qE w g s ⟨#[]⟩ p x):=by
 have H:=hide (Ki h q);clear h;go_enter func160,ntmps160;go_wp2_with fail;refine H.out.mono ?_;rintro e w1 ⟨rfl,j,o⟩;go_wp2_with fail;go_ret;exact ⟨rfl,j,o⟩
theorem CL (h:Rdr w g s p 0) (hs:s.size<=1000000) (hp:p<=s.size):Calls prog 158 #[.pointer (some ⟨g,0,none⟩)] w (FU (fun l=>.string (bs l)) (.string ⟨#[]⟩) (ig (s.data.toList.drop p)) w g s p):=by
 have H:=hide (JM h hs hp);have B:=hide (FI (s.data.toList.drop p));have o:=hide (fun W=>p9 [] W);clear h;go_enter func158,ntmps158;go_wp2_with fail;refine H.out.mono ?_;rintro e w1 (⟨a,C,q,rfl,v,z,A⟩ | ⟨x,q,v,rfl,z,A⟩)
 ·have r:=hide (p9 a w1)
  have u:=hide q;clear q o;go_wp2_with fail;refine r.out.mono ?_;rintro e w2 ⟨rfl,j⟩;go_wp2_with fail;go_ret;refine .inl ⟨aY a,C,?_,rfl,v.below j,z,aj A (ag j _)⟩;rw [B.out,u.out,Res.map_ok]
 ·have r:=hide (o.out w1)
  have u:=hide q;clear q o;rw [show bs []=⟨#[]⟩ from rfl] at r;go_wp2_with fail;refine r.out.mono ?_;rintro e w2 ⟨rfl,j⟩;go_wp2_with fail;go_ret;refine .inr ⟨x,?_,v,rfl,z.below j,aj A (ag j _)⟩;rw [B.out,u.out];rfl
theorem Ca (h:Rdr w g s p 0) (hs:s.size<=1000000) (hp:p<=s.size):Calls prog 161 #[.pointer (some ⟨g,0,none⟩),.int .i64 16] w (FU (fun l=>.string (bs l)) (.string ⟨#[]⟩) (fG 16 (s.data.toList.drop p)) w g s p):=by
 have o:=kP s p
 by_cases z:s.size<p+16
 ·have B:(s.size:Int) - p<16:=by omega
  have q:fG 16 (s.data.toList.drop p)=.no 4:=by
   unfold fG;rw [Y6 Z0]
  have f1:w.frozen? ⟨g,2,none⟩=false:=Blk.frozen h 2;have D:w.cell? ⟨g,2,none⟩=some (.int .i64 0):=Blk.cell h 2;have r:=hide q;have HT:=hide (fun W (hW:Rdr W g s p 0)=>Ji hW);have j:=hide (Y4 hs hp);clear q o;go_enter func161,ntmps161;go_wp2_with (go_at_call 165;refine (dh h j.out.2 j.out.1).mono ?_;rintro e w2 ⟨rfl,C,rfl⟩);refine (HT.out _ (Blk.drewN h _)).mono ?_;rintro e w3 ⟨rfl,v,u⟩;go_wp2_with fail;go_ret;exact .inr ⟨4,r.out,Z2,rfl,v,aj (aL (az _ _) _) u⟩
 ·have B:¬ (s.size:Int) - p<16:=by omega
  have q:fG 16 (s.data.toList.drop p)=.ok ((s.data.toList.drop p).take 16) (s.data.toList.drop (p+16)):=by
   unfold fG;rw [Y5 Z0,Yr]
  have r:=hide q;have HT:=hide (fun W (hW:Rdr W g s p 0)=>rU (k:=0) (n:=16) hW hs Z0 (hide (fun A=>xI _ A)));have j:=hide (Y4 hs (Y4 hp z));clear q o z;go_enter func161,ntmps161;go_wp2_with (go_at_call 165;refine (dh h j.out.2.1 j.out.1).mono ?_;rintro e w2 ⟨rfl,C,rfl⟩);refine (HT.out _ (Blk.drewN h _)).mono ?_;rintro e w3 ⟨rfl,v,u⟩;go_wp2_with fail;go_ret;refine .inl ⟨_,p+16,r.out,?_,v,by have:=j.out;omega,aj (aL (az _ _) _) u⟩;exact Ye (fun t=>Ending.returned (.string t)) (mR s p 16)
theorem zC (h:Rdr w g s p 0) (hs:s.size<=1000000) (hp:p<=s.size):Calls prog 157 #[.pointer (some ⟨g,0,none⟩)] w (FU (fun n:Nat=>.int .u32 n) (.int .u32 0) (lJ (s.data.toList.drop p)) w g s p):=by
 have o:=kP s p
 by_cases B:s.size<p+4
 ·have r:lJ (s.data.toList.drop p)=.no 4:=by
   unfold lJ;rw [Y6 Z0]
  have v:=hide r;have HT:=hide (lD (k:=0) (n:=4) h hs hp Z0 Z0 Z0);have j:=hide (fun W=>lq ⟨#[]⟩ W Z2);clear r o;go_enter func157,ntmps157;go_wp2_with fail;refine HT.out.mono ?_;rintro e w3 ⟨rfl,A,z⟩;go_wp2_with fail;refine (j.out _).mono ?_;rintro e F ⟨rfl,rfl⟩;go_wp2_with fail;go_ret;exact .inr ⟨4,v.out,Z2,rfl,A,z⟩
 ·have r:lJ (s.data.toList.drop p)=.ok (n4 (s.data.toList.drop p)) (s.data.toList.drop (p+4)):=by
   unfold lJ;rw [Y5 Z0,Yr]
  have v:=hide r;have HT:=hide (rU (k:=0) (n:=4) h hs Z0 (hide (fun D=>xI _ D)));have j:=hide (fun W=>lq (s.extract (p+0) (p+0+4)) W (by rw [ByteArray.size_extract];omega));have u:=wE (s:=s) (p:=p) Z0;rw [Nat.add_zero] at HT j;rw [u] at j;have C:=hide B;generalize n4 (s.data.toList.drop p)=q at v j;clear r o u B;go_enter func157,ntmps157;go_wp2_with fail;refine HT.out.mono ?_;rintro e w3 ⟨rfl,A,z⟩;go_wp2_with fail;refine (j.out _).mono ?_;rintro e F ⟨rfl,rfl⟩;go_wp2_with fail;go_ret;exact .inl ⟨_,p+4,v.out,rfl,A,by have:=C.out;omega,z⟩
theorem zz9ca (h_:p_:=by
 go_enter func156,ntmps156;go_wp2_with fail;refine HT.out.mono ?_;rintro e w3 ⟨rfl,hr,ho⟩;go_wp2_with fail;go_ret
 exact .inl ⟨_,p+1,HG.out,rfl,hr,by have:=HH.out;omega,ho⟩):p_:=h_
theorem EW (h:Rdr w g s p 0) (hs:s.size<=1000000) (hp:p<=s.size):Calls prog 156 #[.pointer (some ⟨g,0,none⟩)] w (FU (fun n:Int=>.bool (n == 1)) (.bool false) (nI (s.data.toList.drop p)) w g s p):=by
 have q:=kP s p
 by_cases D:s.size<p+1
 ·have v:nI (s.data.toList.drop p)=.no 4:=by
   have:s.data.toList.drop p=[]:=Yc Z0;rw [this];rfl
  have HG:=hide v;have HT:=hide (DX (k:=0) (n:=1) h hs hp Z0 Z0 Z0);clear v q;go_enter func156,ntmps156;go_wp2_with fail;refine HT.out.mono ?_;rintro e w3 ⟨rfl,hr,ho⟩;go_wp2_with fail;go_ret;exact .inr ⟨4,HG.out,Z2,rfl,hr,ho⟩
 ·obtain ⟨c,r,o⟩:=List.exists_cons_of_ne_nil (show s.data.toList.drop p≠[] from fun e=>by rw [e] at q;simp at q;omega)
  have A:s.data.toList.drop (p+1)=r:=by
   rw [<-Yr,o];rfl
  have j:s.extract (p+0) (p+0+1)=bs [c]:=by
   rw [mR,Nat.add_zero,o];rfl
  have HB:=hide (fun W=>Mo (bs [c]) rfl W);have B:0<(bs [c]).size:=Nat.zero_lt_one;have u:(bs [c])[0]=c:=rfl;have F:=c.toNat_lt
  by_cases C:c.toNat<=1
  ·have v:nI (s.data.toList.drop p)=.ok c.toNat (s.data.toList.drop (p+1)):=by rw [o,iL,Y6 C,A]
   rw [show decide ((bs [c])[0].toNat<=1)=true from by rw [u];exact Y8 C,<- j] at HB;have HT:=hide (KD (k:=0) (n:=1) h hs Z0 HB);rw [j] at HT;have HG:=hide v;have HH:=hide D;clear v q o A j HB u B D;obtain z | z:c.toNat=0\/c.toNat=1:=Z0
   ·obtain rfl:c=0:=UInt8.toNat_inj.1 (by simpa using z)
    have G:((bs [0]).toList == [1])=false:=Z7;exact zz9ca
   ·obtain rfl:c=1:=UInt8.toNat_inj.1 (by simpa using z)
    have G:((bs [1]).toList == [1])=true:=Z7;exact zz9ca
  ·have v:nI (s.data.toList.drop p)=.no 3:=by rw [o,iL,Y5 C]
   rw [show decide ((bs [c])[0].toNat<=1)=false from by rw [u];exact Y7 C,<- j] at HB;have HT:=hide (KZ (k:=0) (n:=1) h hs Z0 HB);have HG:=hide v;clear v q o A j HB u B D;go_enter func156,ntmps156;go_wp2_with fail;refine HT.out.mono ?_;rintro e w3 ⟨rfl,hr,ho⟩;go_wp2_with fail;go_ret;exact .inr ⟨3,HG.out,Z2,rfl,hr,ho⟩
theorem zzc0f (h_:p_:=by
 clear hdl h0;go_enter func94,ntmps94;go_wp2_with fail;refine (bE h).mono ?_;rintro e w1 ⟨rfl,rfl⟩;go_wp2_with (go_at_call 165;refine (dh h hp hs).mono ?_;rintro e w2 ⟨rfl,m2,rfl⟩);go_ret
 exact ⟨by rw [E.out];rfl,aL (az _ _) _⟩):p_:=h_
theorem LG (h:Rdr w g s p 0) (hs:s.size<=1000000) (hp:p<=s.size):Calls prog 94 #[.pointer (some ⟨g,0,none⟩)] w (fun e w'=>e=.returned (.int .i64 (pE (s.data.toList.drop p)))/\w.grownBy w' (some g)):=by
 have hdl:=kP s p
 by_cases h0:p=s.size
 ·have E:=hide (show pE (s.data.toList.drop p)=0 from Y6 (Yc Z0))
  have j:(((s.size:Int) - p) == 0)=true:=ZD;exact zzc0f
 ·have E:=hide (show pE (s.data.toList.drop p)=3 from Y5 (fun e=>by rw [e] at hdl;simp at hdl;omega))
  have j:(((s.size:Int) - p) == 0)=false:=Z6;exact zzc0f
end
def fD (x:Fld) (lv:Value):Value:=.agg #[.int .u8 x.k,.int .i64 x.n,.string (bs x.s),lv]
structure SzF (x:Fld):Prop where
 s:x.s.length<=100000
 n:x.l.length<=1000
 l:∀y∈x.l,y.length<=100000
section
variable {w : World}
theorem tF (n:Nat) (w:World) (g:n<256):Calls prog 118 #[.int .u8 n] w (Says [UInt8.ofNat n] w):=by
 go_enter func118,ntmps118;go_wp2;go_ret;exact ⟨rfl,Z4⟩
theorem zzcbf (h_:p_:=by
 go_enter func199,ntmps199;go_wp2_with (go_at_call 118;refine H.out.mono ?_;rintro e w1 ⟨rfl,hb1⟩);go_ret
 exact ⟨rfl,hb1⟩):p_:=h_
theorem yL (b:Bool) (w:World):Calls prog 199 #[.bool b] w (Says [if b=true then 1 else 0] w):=by
 cases b with
 | true =>
  have H:=hide (tF 1 w Z2);exact zzcbf
 | false =>
  have H:=hide (tF 0 w Z2);exact zzcbf
theorem jW {k:Nat} {n:Nat} (h:¬ k=n):((k:Int) == (n:Int))=false:=Z6
theorem VB {k:Nat} {n:Nat} (h:k=n):((k:Int) == (n:Int))=true:=by rw [h];simp
theorem zzafa (h_:p_:=by
 go_enter func198,ntmps198;go_wp2;go_ret
 exact ⟨rfl,rfl⟩):p_:=h_
theorem Ed (k:Nat) (w:World):Calls prog 198 #[.int .u8 k] w (fun e w'=>e=.returned (.int .i64 (cntF k))/\w'=w):=by
 by_cases g:k=98
 ·subst g
  exact zzafa
 ·by_cases h:k=117
  ·subst h
   exact zzafa
  ·by_cases j:k=110
   ·subst j
    exact zzafa
   ·by_cases o:k=101
    ·subst o
     exact zzafa
    ·have E:=hide (show cntF k=1 from by unfold cntF;rw [Y5 Z0,Y5 Z0])
     have p:((k:Int) == 98)=false:=jW g;have q:((k:Int) == 117)=false:=jW h;have r:((k:Int) == 110)=false:=jW j;have u:((k:Int) == 101)=false:=jW o;go_enter func198,ntmps198;go_wp2;go_ret;exact ⟨Zi,rfl⟩
theorem Gv (k:Nat) (n:Int) (s:ByteArray) (A:Option Addr) (m c g:Nat) (o:g=0\/g=1\/g=2) (p:Hid (∀W,Calls prog 198 #[.int .u8 k] W (fun e w'=>e=.returned (.int .i64 g)/\w'=W))) (j b2 h:Bool)
  (r:(n == 0)=j) (hs:(s.toList == [])=b2) (q:((m:Int) == 0)=h) :
  Calls prog 119 #[.agg #[.int .u8 k,.int .i64 n,.string s,.slice A m c]] w (fun e w'=>e=.returned (.bool ((decide (g=0) || j) && ((decide (g=1) || b2) && (decide (g=2) || h))))/\Below w.heap.size w w'):=by
 rcases o with rfl | rfl | rfl <;> cases j <;> cases b2 <;> cases h
 all_goals
  go_enter func119,ntmps119;go_wp2_with (go_at_call 198;refine (p.out _).mono ?_;rintro e w1 ⟨rfl,rfl⟩);go_ret;exact ⟨rfl,Z4⟩
theorem Ku (k:Nat):cntF k=0\/cntF k=1\/cntF k=2:=by
 unfold cntF
 split
 ·exact .inl rfl
 ·split
  ·exact .inr (.inr rfl)
  ·exact .inr (.inl rfl)
theorem Lb (x:Fld) (w:World):Calls prog 119 #[fD x (.slice A x.l.length c)] w (fun e w'=>e=.returned (.bool (bK x))/\Below w.heap.size w w'):=by
 have h:=Gv (w:=w) x.k x.n (bs x.s) A x.l.length c (cntF x.k) (Ku _) (hide (fun W=>Ed x.k W)) (decide (x.n=0)) x.s.isEmpty x.l.isEmpty (by
  rw [Bool.eq_iff_iff];simp) (by rw [ay];cases x.s <;> rfl) (by
  cases x.l with
  | nil=>rfl
  | cons a b=>rw [List.isEmpty_cons,Y3,Yv];omega)
 exact h
def kY (l:List (List UInt8)) (i:Nat):List UInt8:=((l.take i).map bi).flatten
theorem yK (h:i<l.length):kY l (i+1)=kY l i++bi l[i]:=by
 unfold kY;rw [Yh h,List.map_append,List.flatten_append,List.map_singleton,List.flatten_singleton]
theorem vL (h:∀y∈l,y.length<=100000):(l.map bi).flatten.length<=l.length*100004:=by
 induction l with
 | nil=>simp
 | cons x l ih =>
  have g:=h x Z3;have j:=ih (fun y hy=>h y Xq);simp only [List.map_cons,List.flatten_cons,Ya,Yv,bi,bM];omega
theorem zz409 (h_:p_:=by
 go_wp2_with fail;go_ret2
 exact ⟨by rw [E.out];rfl,by exact ae⟩):p_:=h_
theorem zz7df (h_:p_:=by
 simp only [IntKind.wrap,IntKind.bits,IntKind.signed];simp
 omega):p_:=h_
theorem zzb9a (h_:p_:=by
 refine ⟨⟨i+1,?_,by go_num,by omega,hb.trans (hb2.mono hb.size)⟩,by simp [intOf];omega⟩;rw [hfl.out]
 rfl):p_:=h_
theorem zzc86 (h_:p_:=by
 subst hil;clear HS HT HU;have hE:q4 (l.length / 2)++kY l l.length=om l:=by unfold kY;rw [List.take_length];rfl
 rw [hE];go_wp2_with fail;go_ret2
 exact ⟨by rw [E.out];rfl,hb⟩):p_:=h_
theorem MH (l:List (List UInt8)) (G:Txs w (.slice A l.length c) l) (R:l.length<=1000) (j:∀y∈l,y.length<=100000) :
  Calls prog 204 #[.slice A l.length c] w (fun e w'=>e=.returned (.tuple #[.string (bs (aH ⟨101,0,[],l⟩).2),.int .i64 (aH ⟨101,0,[],l⟩).1])/\Below w.heap.size w w'):=by
 by_cases o:l.length % 2=1
 ·have E:=hide (show aH ⟨101,0,[],l⟩=(3,[]) from by simp [aH,o])
  have e1:((Int.tmod (l.length:Int) 2) == 0)=false:=by
   rw [Y3,Int.tmod_eq_emod_of_nonneg Z0];omega
  go_enter func204,ntmps204;exact zz409
 ·have e1:((Int.tmod (l.length:Int) 2) == 0)=true:=by
   rw [beq_iff_eq,Int.tmod_eq_emod_of_nonneg Z0];omega
  by_cases C:16<l.length
  ·have E:=hide (show aH ⟨101,0,[],l⟩=(2,[]) from by simp [aH,o,C])
   have e2:(16:Int)<l.length:=Z0;go_enter func204,ntmps204;exact zz409
  ·have E:=hide (show aH ⟨101,0,[],l⟩=(0,om l) from by simp [aH,o,C])
   have e2:¬ (16:Int)<l.length:=Z0
   have T:Int.tdiv (l.length:Int) 2=((l.length / 2:Nat):Int):=by
    rw [Int.tdiv_eq_ediv_of_nonneg Z0];omega
   have U:IntKind.u32.wrap ((l.length / 2:Nat):Int)=((l.length / 2:Nat):Int):=by
    exact zz7df
   have HU:=hide (fun W=>xm (l.length / 2) W Z0);have HT:=hide (fun W (i:Nat) (hi:i<l.length)=>rH l[i] W (by have:=j _ (Yf hi);omega));have HS:=hide (fun (i:Nat)=>show (kY l i).length<=1000*100004 from Yg (vL (l:=l.take i) (fun y h=>j y (List.mem_of_mem_take h))) (Nat.mul_le_mul_right 100004 (Yg (by rw [Yq];omega:(l.take i).length<=l.length) R)));have J:=hide G;have K:=hide j;clear G j;go_enter func204,ntmps204;go_wp2_with (go_at_call 200;refine (HU.out _).mono ?_;rintro e w1 ⟨rfl,p⟩)
   go_loopw [4,23] (fun v B wr=>∃i:Nat,v=.string (bs (q4 (l.length / 2)++kY l i))/\B=.int .i64 i/\i<=l.length/\Below w.heap.size w wr) (fun _ B _=>l.length - (intOf B).toNat)
   case atStart=>exact ⟨0,by rw [show kY l 0=[] from rfl,List.append_nil],rfl,Yb _,p⟩
   case round =>
    obtain ⟨i,rfl,rfl,hi,hb⟩:=hrel
    by_cases g:i<l.length
    ·have P:(i:Int)<l.length:=by omega
     obtain ⟨I,L,hv,D⟩:=(J.out.below hb).open_;obtain ⟨rfl,rfl⟩:I=A/\L=c:=Z8;obtain ⟨S,rfl,O,q⟩:=D i g;have hfl:=hide (yK g);have F:=hide (HT.out wr i g);have r:=HS.out i;have u:=K.out _ (Yf g);have z:(q4 (l.length / 2)).length+(kY l i).length<=200000000:=by rw [bM];omega
     generalize N:q4 (l.length / 2)=Q at z;generalize l[i]=y at q hfl F u;clear hv D N r;go_wp2_with (go_at_call 203;refine F.out.mono ?_;rintro e w2 ⟨rfl,hb2⟩);exact zzb9a
    ·have hil:i=l.length:=by omega
     exact zzc86
end
def uE (x:Fld) (w:World) (e:Ending) (w':World):Prop:=e=.returned (.tuple #[.string (bs (aH x).2),.int .i64 (aH x).1])/\Below w.heap.size w w'
theorem fE {x:Fld} {w:World} {e:Ending} {n:Nat} {l:List UInt8} (h:aH x=(n,l)) (he:e=.returned (.tuple #[.string (bs l),.int .i64 n])) (g:Below w.heap.size w w'):uE x w e w':=by
 unfold uE;rw [h];exact ⟨he,g⟩
section
variable {w : World}
theorem zz92f (h_:p_:=by
 go_enter func120,ntmps120;go_wp2_with fail;go_ret2
 exact fE E.out rfl (by exact ae)):p_:=h_
theorem UM (n:Int) (s:List UInt8) (l:List (List UInt8)) :Calls prog 120 #[fD ⟨98,n,s,l⟩ (.slice A l.length c)] w (uE ⟨98,n,s,l⟩ w):=by
 unfold fD;simp only;have HT:=hide (fun W=>yL true W);have o:=hide (fun W=>yL false W)
 by_cases g:n=0
 ·subst g
  have E:=hide (show aH ⟨98,0,s,l⟩=(0,[0]) from rfl);go_enter func120,ntmps120;go_wp2_with (go_at_call 199;refine (o.out _).mono ?_;rintro e w1 ⟨rfl,j⟩);go_ret2;exact fE E.out rfl Z4
 ·by_cases h:n=1
  ·subst h
   have E:=hide (show aH ⟨98,1,s,l⟩=(0,[1]) from rfl);go_enter func120,ntmps120;go_wp2_with (go_at_call 199;refine (HT.out _).mono ?_;rintro e w1 ⟨rfl,j⟩);go_ret2;exact fE E.out rfl Z4
  ·have E:=hide (show aH ⟨98,n,s,l⟩=(5,[]) from by simp [aH,g,h])
   have p:(n == 0)=false:=by rw [Y3];exact g
   have e1:(n == 1)=false:=by rw [Y3];exact h
   have q:(n != 0)=true:=by simp [bne,p]
   have r:(n != 1)=true:=XD;clear g h;exact zz92f
theorem Re (n:Int) (s:List UInt8) (l:List (List UInt8)) :Calls prog 120 #[fD ⟨117,n,s,l⟩ (.slice A l.length c)] w (uE ⟨117,n,s,l⟩ w):=by
 unfold fD;simp only
 by_cases j:n<0
 ·have E:=hide (show aH ⟨117,n,s,l⟩=(5,[]) from by
   simp only [aH]
   rw [Y5 Z2,Y6 trivial,Y5 Z0])
  go_enter func120,ntmps120;go_wp2_with fail;go_ret2;exact fE E.out rfl Z4
 ·by_cases o:4294967295<n
  ·have E:=hide (show aH ⟨117,n,s,l⟩=(5,[]) from by
    simp only [aH]
    rw [Y5 Z2,Y6 trivial,Y5 Z0])
   go_enter func120,ntmps120;go_wp2_with fail;go_ret2;exact fE E.out rfl Z4
  ·obtain ⟨m,rfl⟩:∃m:Nat,n=m:=⟨n.toNat,Z0⟩
   have E:=hide (show aH ⟨117,m,s,l⟩=(0,q4 m) from by
    simp only [aH];rw [Y5 Z2,Y6 trivial,Y6 ⟨Z0,Z0⟩]
    simp)
   have g:=hide (fun W=>xm m W Z0)
   have hw:IntKind.u32.wrap (m:Int)=m:=by
    exact zz7df
   go_enter func120,ntmps120;go_wp2_with (go_at_call 200;refine (g.out _).mono ?_;rintro e w1 ⟨rfl,h⟩);go_ret2;exact fE E.out rfl Z4
theorem zzfec (h_:p_:=by
 go_enter func120,ntmps120;go_wp2_with (go_at_call 201;refine (HW.out _).mono ?_;rintro e w1 ⟨rfl,hb1⟩);go_ret2
 exact fE E.out rfl (by exact ae)):p_:=h_
theorem RB (n:Int) (s:List UInt8) (l:List (List UInt8)) (hs:s.length<=100000):Calls prog 120 #[fD ⟨109,n,s,l⟩ (.slice A l.length c)] w (uE ⟨109,n,s,l⟩ w):=by
 unfold fD;simp only;have HW:=hide (fun W=>Gh (bs s) W ZJ);rw [aO] at HW
 cases s with
 | nil =>
  have E:=hide (show aH ⟨109,n,[],l⟩=(0,dY []) from rfl);have o:(bs []).toList.isEmpty=true:=XT;have p:((bs []).toList == [])=true:=XT;exact zzfec
 | cons d r =>
  have o:=Cj d r;have p:((bs (d :: r)).toList == [])=false:=XT;have j:0<(bs (d :: r)).size:=X6;have g:(bs (d :: r))[0]=d:=rfl
  by_cases h:d=0
  ·subst h
   have E:=hide (show aH ⟨109,n,0 :: r,l⟩=(3,[]) from by simp [aH,dU]);have q:(((bs (0 :: r))[0].toNat:Int) == 0)=true:=by rw [g];rfl
   clear g;exact zz92f
  ·have E:=hide (show aH ⟨109,n,d :: r,l⟩=(0,dY (d :: r)) from by simp [aH,dU,h])
   have h9:d.toNat≠0:=fun e=>h (UInt8.toNat_inj.1 XO)
   have q:(((bs (d :: r))[0].toNat:Int) == 0)=false:=by rw [g,Y3];omega
   clear g h h9;exact zzfec
theorem zzd78 (h_:p_:=by
 have hj:mr l=[]:=by unfold mr;rw [Y5 (by omega)]
 rw [h9,hj] at HJ;clear h9 hj ht hl;go_enter func120,ntmps120;go_wp2_with (go_at_call 202;refine (HJ.out _ (by exact ae)).mono ?_;rintro e w1 ⟨rfl,hb1⟩);go_ret2
 exact fE E.out rfl (by exact ae)):p_:=h_
theorem Qz (n:Int) (s:List UInt8) (l:List (List UInt8)) (ht:Txs w (.slice A l.length c) l) (o:l.length<=c) (hl:∀y∈l,y.length<=100000):Calls prog 120 #[fD ⟨110,n,s,l⟩ (.slice A l.length c)] w (uE ⟨110,n,s,l⟩ w):=by
 unfold fD;simp only;have HJ:=hide (fun W (hb:Below w.heap.size w W)=>rZ (ht.below hb) o (fun y h=>by have:=hl y h;omega));rcases jJ l with h9 | h9 | h9
 ·have E:=hide (show aH ⟨110,n,s,l⟩=(0,bi (dV l)) from XM)
  have hj:mr l=dV l:=by unfold mr;rw [Y6 h9]
  obtain ⟨w1,w2⟩:=jE h9;have g:=kg (l:=l) (fun y h=>(gQ (w2 y h)).2);have HT:=hide (fun W=>rH (dV l) W Z0);rw [h9,hj] at HJ;clear h9 hj w1 w2 g ht hl;go_enter func120,ntmps120;go_wp2_with (go_at_call 202;refine (HJ.out _ Z4).mono ?_;rintro e w1 ⟨rfl,hb1⟩);refine (HT.out _).mono ?_;rintro e w2 ⟨rfl,j⟩;go_wp2_with fail;go_ret2;exact fE E.out rfl Z4
 ·have E:=hide (show aH ⟨110,n,s,l⟩=(2,[]) from XM)
  exact zzd78
 ·have E:=hide (show aH ⟨110,n,s,l⟩=(3,[]) from XM)
  exact zzd78
theorem Uh (n:Int) (s:List UInt8) (l:List (List UInt8)) :Calls prog 120 #[fD ⟨99,n,s,l⟩ (.slice A l.length c)] w (uE ⟨99,n,s,l⟩ w):=by
 unfold fD;simp only;have j:(bs s).size=s.length:=rfl
 by_cases g:s.length=16
 ·have E:=hide (show aH ⟨99,n,s,l⟩=(0,s) from by simp [aH,g])
  have e1:((s.length:Int) == 16)=true:=ZD;have h:((s.length:Int) != 16)=false:=XD;clear g;exact zz92f
 ·have E:=hide (show aH ⟨99,n,s,l⟩=(3,[]) from by simp [aH,g])
  have e1:((s.length:Int) == 16)=false:=Z6;have h:((s.length:Int) != 16)=true:=XD;clear g;exact zz92f
theorem Qy (n:Int) (s:List UInt8) (l:List (List UInt8)) (p:Txs w (.slice A l.length c) l) (r:l.length<=1000) (o:∀y∈l,y.length<=100000):Calls prog 120 #[fD ⟨101,n,s,l⟩ (.slice A l.length c)] w (uE ⟨101,n,s,l⟩ w):=by
 unfold fD;simp only;have h:=hide (fun W (hb:Below w.heap.size w W)=>MH l (p.below hb) r o);have g:aH ⟨101,n,s,l⟩=aH ⟨101,0,[],l⟩:=by simp [aH]
 have j:=hide g;generalize aH ⟨101,0,[],l⟩=u at h j;clear g p o;go_enter func120,ntmps120;go_wp2_with (go_at_call 204;refine (h.out _ Z4).mono ?_;rintro e w1 ⟨rfl,q⟩);go_ret2;exact fE j.out rfl Z4
theorem OO (k:Nat) (n:Int) (s:List UInt8) (l:List (List UInt8)) (hs:s.length<=100000) (g:¬ k=98) (h:¬ k=117) (j:¬ k=109) (o:¬ k=110) (p:¬ k=99) (q:¬ k=101) :
  Calls prog 120 #[fD ⟨k,n,s,l⟩ (.slice A l.length c)] w (uE ⟨k,n,s,l⟩ w):=by
 unfold fD;simp only;have HT:=hide (fun W=>rH s W Z0);have E:=hide (show aH ⟨k,n,s,l⟩=(0,bi s) from by simp [aH,g,h,j,o,p,q]);have u:((k:Int) == 98)=false:=jW g;have v:((k:Int) == 117)=false:=jW h;have z:((k:Int) == 109)=false:=jW j;have B:((k:Int) == 110)=false:=jW o;have C:((k:Int) == 99)=false:=jW p;have D:((k:Int) == 101)=false:=jW q;clear g h j o p q;go_enter func120,ntmps120;go_wp2_with (go_at_call 203;refine (HT.out _).mono ?_;rintro e w1 ⟨rfl,r⟩);go_ret2;exact fE E.out rfl Z4
theorem Ou (x:Fld) (C:SzF x) (j:Txs w (.slice A x.l.length c) x.l) (B:x.l.length<=c):Calls prog 120 #[fD x (.slice A x.l.length c)] w (uE x w):=by
 obtain ⟨k,n,s,l⟩:=x;obtain ⟨g,z,h⟩:=C
 by_cases o:k=98
 ·subst o;exact UM n s l
 by_cases p:k=117
 ·subst p;exact Re n s l
 by_cases q:k=109
 ·subst q;exact RB n s l g
 by_cases r:k=110
 ·subst r;exact Qz n s l j B h
 by_cases u:k=99
 ·subst u;exact Uh n s l
 by_cases v:k=101
 ·subst v;exact Qy n s l j z h
 exact OO k n s l g o p q r u v
end
section
variable {w : World}
theorem zzdc0 (h_:p_:=by
 go_enter func123,ntmps123;go_wp2_with (go_at_call 73;refine H.out.mono ?_;rintro e w1 ⟨rfl,hb1⟩);go_ret
 exact ⟨rfl,hb1⟩):p_:=h_
theorem yu (b:Bool) (w:World):Calls prog 123 #[.bool b] w (Says [if b=true then 1 else 0] w):=by
 cases b with
 | true =>
  have H:=hide (oZ 1 w Z2);exact zzdc0
 | false =>
  have H:=hide (oZ 0 w Z2);exact zzdc0
theorem qf (s:ByteArray) (hs:s.size<=9223372036854775807) (w:World):Calls prog 70 #[.string s] w (fun e w'=>e=.returned (.bool (bA s.data.toList))/\w'=w):=by
 go_enter func70,ntmps70;go_wp2_with fail
 go_loop [3] (fun i=>∃k:Nat,k<=s.size/\i=.int .i64 k/\Hid (∀c∈s.data.toList.take k,33<=c.toNat/\c.toNat<=126/\c≠44)) (fun i=>s.size - (intOf i).toNat)
 case atStart=>exact ⟨0,Yb _,rfl,hide Z3⟩
 case round =>
  obtain ⟨k,B,rfl,H⟩:=hrel
  by_cases hlt:k<s.size
  ·by_cases z:s[k].toNat<33
   ·have r:(s[k].toNat:Int)<33:=by omega
    have E:=hide (lV (bY hlt) (.inl z));go_wp2_with fail;go_ret;exact ⟨Zi,rfl⟩
   ·have r:¬ (s[k].toNat:Int)<33:=by omega
    by_cases A:126<s[k].toNat
    ·have u:(126:Int)<s[k].toNat:=by omega
     have E:=hide (lV (bY hlt) (.inr (.inl A)));go_wp2_with fail;go_ret;exact ⟨Zi,rfl⟩
    ·have u:¬ (126:Int)<s[k].toNat:=by omega
     by_cases g:s[k]=44
     ·have v:((s[k].toNat:Int) == 44)=true:=by rw [g];rfl
      have E:=hide (lV (bY hlt) (.inr (.inr g)));clear g;go_wp2_with fail;go_ret;exact ⟨Zi,rfl⟩
     ·have h9:s[k].toNat≠44:=fun e=>g (UInt8.toNat_inj.1 XO)
      have v:((s[k].toNat:Int) == 44)=false:=Z6;have H2:=hide (kW hlt H.out ⟨YK z,YK A,g⟩);clear H g h9;go_wp2_with fail;exact zz4fa
  ·have E:=hide (Eb (kL hlt H.out))
   have o:s.data.toList.length=s.size:=rfl;rw [o] at E;clear H o
   by_cases p:1<=s.size
   ·have q:(1:Int)<=s.size:=by omega
    by_cases h:s.size<=64
    ·have j:(s.size:Int)<=64:=by omega
     go_wp2_with fail;go_ret;refine ⟨?_,rfl⟩;rw [E.out,Y8 p,Y8 h];rfl
    ·have j:¬ (s.size:Int)<=64:=by omega
     go_wp2_with fail;go_ret;refine ⟨?_,rfl⟩;rw [E.out,Y8 p,Y7 h];rfl
   ·have q:¬ (1:Int)<=s.size:=by omega
    go_wp2_with fail;go_ret;refine ⟨?_,rfl⟩;rw [E.out,Y7 p];rfl
theorem qo (h:Txs w (.slice A ls.length c) ls) (r:∀y∈ls,y.length<=9223372036854775807) :
  Calls prog 27 #[.slice A ls.length c] w (fun e w'=>e=.returned (.int .i64 (bJ ls))/\w'=w):=by
 obtain ⟨u,z,hv,q⟩:=h.open_;obtain ⟨rfl,rfl⟩:u=A/\z=c:=Z8;clear hv h;go_enter func27,ntmps27
 by_cases p:16<ls.length
 ·have o:(16:Int)<ls.length:=by omega
  have E:=hide (uz p);go_wp2_with fail;go_ret;exact ⟨Zi,rfl⟩
 ·have o:¬ (16:Int)<ls.length:=by omega
  have v:=hide r;clear r;go_wp2_with fail
  go_loop [3] (fun i=>∃k:Nat,k<=ls.length/\i=.int .i64 k/\Hid (∀x∈ls.take k,bA x=true)) (fun i=>ls.length - (intOf i).toNat)
  case atStart=>exact ⟨0,Yb _,rfl,hide Z3⟩
  case round =>
   obtain ⟨k,F,rfl,H⟩:=hrel
   by_cases hlt:k<ls.length
   ·obtain ⟨C,rfl,B,D⟩:=q k hlt
    have j:=hide (qf (bs ls[k]) (v.out _ (Yf hlt)) w);rw [aO] at j;have g:=Yf hlt
    cases hr:bA ls[k] with
    | false =>
     rw [hr] at j;have E:=hide (zi (l:=ls) Z0 g hr);clear g hr;go_wp2_with (go_at_call 70;refine j.out.mono ?_;rintro e w1 ⟨rfl,rfl⟩);go_ret;exact ⟨Zi,rfl⟩
    | true =>
     rw [hr] at j
     have H2:=hide (show ∀x∈ls.take (k+1),bA x=true from by
      exact zz841)
     clear g hr H;go_wp2_with (go_at_call 70;refine j.out.mono ?_;rintro e w1 ⟨rfl,rfl⟩);exact zz4fa
   ·have E:=hide (wV (l:=ls) Z0 (fun x hx=>H.out x Xb))
    clear H q;go_wp2_with fail;go_ret;exact ⟨Zi,rfl⟩
theorem FE (h:l≠[]) (x:List UInt8):dV (l++[x])=dV l++44 :: x:=by
 induction l with
 | nil=>exact absurd rfl h
 | cons y l ih =>
  by_cases g:l=[]
  ·subst g
   rfl
  ·rw [YD,fK _ Z3,ih g,fK _ g,Yk]
   rfl
def pO (l:List (List UInt8)) (i:Nat):List UInt8:=dV (l.take i)
theorem Jb (h:0<l.length):pO l 1=l[0]:=by
 unfold pO;rw [Yh h];simp [dV]
theorem D6 (h:i+1<l.length):pO l (i+1+1)=pO l (i+1)++[44]++l[i+1]:=by
 unfold pO;rw [Yh h,FE]
 ·simp
 ·intro e
  have g:(l.take (i+1)).length=i+1:=ZS;rw [e] at g;simp at g
theorem JR (h:Txs w (.slice A ls.length c) ls) (h9:bJ ls=0) :
  Calls prog 29 #[.slice A ls.length c] w (fun e w'=>e=.returned (.string (bs (dV ls)))/\w'=w):=by
 obtain ⟨I,J,hv,F⟩:=h.open_;obtain ⟨rfl,rfl⟩:I=A/\J=c:=Z8;obtain ⟨w1,w2⟩:=jE h9;have C:=hide (fun i=>show (pO ls i).length<=16*65 from Yg (kg (l:=ls.take i) (fun y z=>(gQ (w2 y (List.mem_of_mem_take z))).2)) (Nat.mul_le_mul_right 65 ZS));have D:=hide (fun y z=>(gQ (w2 y z)).2);clear hv h w2 h9;go_enter func29,ntmps29;go_wp2_with fail
 go_loop [3,4] (fun v i=>∃k:Nat,k<=ls.length/\i=.int .i64 k/\v=.string (bs (pO ls k))) (fun _ i=>ls.length - (intOf i).toNat)
 case atStart=>exact ⟨0,Yb _,rfl,rfl⟩
 case round =>
  obtain ⟨k,L,rfl,rfl⟩:=hrel
  by_cases g:k<ls.length
  ·obtain ⟨q,rfl,K,j⟩:=F k g
   have o:=C.out k;have p:=D.out _ (Yf g)
   cases k with
   | zero =>
    have E:=hide (Jb g);have B:pO ls 0=[]:=rfl;rw [B] at o ⊢;generalize ls[0]=y at j E p;have r:w.cell? q=some (.string (bs y)):=j;clear B o j;go_wp2_with fail;go_round
    case rel=>exact ⟨1,g,Zr,by rw [E.out]⟩
    case measure=>simp [intOf];omega
   | succ k =>
    have E:=hide (D6 g);generalize ls[k+1]=y at j E p;have G:(0:Int)<((k+1:Nat):Int):=Z0;have r:w.cell? ⟨q.block,q.off+(k+1),none⟩=some (.string (bs y)):=j;clear j;go_wp2_with fail;go_round
    case rel=>exact ⟨k+1+1,g,Zr,by rw [E.out,show (⟨#[44]⟩:ByteArray)=bs [44] from rfl,Gg,Gg]⟩
    case measure=>simp [intOf];omega
  ·have u:k=ls.length:=by omega
   subst u;have E:pO ls ls.length=dV ls:=by unfold pO;rw [List.take_length]
   rw [E];clear E C D F;go_wp2_with fail;go_ret;exact ⟨rfl,rfl⟩
theorem CJ (k:Nat) (n:Int) (s:ByteArray) (A:Option Addr) (m c:Nat) (b1 b2 j o h bs' g:Bool) (p:((k:Int) == 98)=b1) (q:((k:Int) == 117)=b2) (r:((k:Int) == 110)=j) (u:((k:Int) == 101)=o)
  (z:(n == 0)=h) (hs:((s.size:Int) == 0)=bs') (v:((m:Int) == 0)=g) :
  Calls prog 122 #[.agg #[.int .u8 k,.int .i64 n,.string s,.slice A m c]] w (fun e w'=>e=.returned (.bool (if b1 || b2 then bs' && g else if j || o then h && bs' else h && g))/\Below w.heap.size w w'):=by
 cases b1
 ·cases b2
  ·cases j
   ·cases o
    ·cases h <;> cases g
     all_goals
      go_enter func122,ntmps122;go_wp2_with fail;go_ret;exact ⟨rfl,Z4⟩
    ·cases h <;> cases bs'
     all_goals
      go_enter func122,ntmps122;go_wp2_with fail;go_ret;exact ⟨rfl,Z4⟩
   ·cases h <;> cases bs'
    all_goals
     go_enter func122,ntmps122;go_wp2_with fail;go_ret;exact ⟨rfl,Z4⟩
  ·cases bs' <;> cases g
   all_goals
    go_enter func122,ntmps122;go_wp2_with fail;go_ret;exact ⟨rfl,Z4⟩
 ·cases bs' <;> cases g
  all_goals
   go_enter func122,ntmps122;go_wp2_with fail;go_ret;exact ⟨rfl,Z4⟩
theorem Ld (x:Fld):bK x=(if decide (x.k=98) || decide (x.k=117) then x.s.isEmpty && x.l.isEmpty else if decide (x.k=110) || decide (x.k=101) then decide (x.n=0) && x.s.isEmpty else decide (x.n=0) && x.l.isEmpty):=by
 by_cases a:x.k=98 <;> by_cases b:x.k=117 <;> by_cases c:x.k=110 <;> by_cases d:x.k=101
 all_goals simp [bK,cntF,a,b,c,d]
theorem G8 (k n:Nat):((k:Int) == (n:Int))=decide (k=n):=by
 rw [Bool.eq_iff_iff,beq_iff_eq,Yw];omega
theorem gI (x:Fld) (w:World):Calls prog 122 #[fD x (.slice A x.l.length c)] w (fun e w'=>e=.returned (.bool (bK x))/\Below w.heap.size w w'):=by
 have g:∀{α:Type} (l:List α),((l.length:Int) == 0)=l.isEmpty:=by
  intro α l
  cases l with
  | nil=>rfl
  | cons a b=>rw [List.isEmpty_cons,Y3,Yv];omega
 have h:=CJ (w:=w) x.k x.n (bs x.s) A x.l.length c _ _ _ _ (decide (x.n=0)) x.s.isEmpty x.l.isEmpty (G8 x.k 98) (G8 x.k 117) (G8 x.k 110) (G8 x.k 101) (by rw [Bool.eq_iff_iff];simp) (g x.s) (g x.l);rw [Ld];exact h
def fP (x:Fld):Nat × List UInt8:=if bK x=true then aH x else (3,[])
def mf (x:Fld) (w:World) (e:Ending) (w':World):Prop:=e=.returned (.tuple #[.string (bs (fP x).2),.int .i64 (fP x).1])/\Below w.heap.size w w'
theorem dF {x:Fld} {w:World} {e:Ending} {n:Nat} {l:List UInt8} (h:fP x=(n,l)) (he:e=.returned (.tuple #[.string (bs l),.int .i64 n])) (g:Below w.heap.size w w'):mf x w e w':=by
 unfold mf;rw [h];exact ⟨he,g⟩
theorem Pe (x:Fld) (hp:bK x=false) :Calls prog 75 #[fD x (.slice A x.l.length c)] w (mf x w):=by
 have E:=hide (show fP x=(3,[]) from by unfold fP;rw [hp];rfl);have g:=hide (fun W=>gI x (A:=A) (c:=c) W);rw [hp] at g;unfold fD at g ⊢;go_enter func75,ntmps75;go_wp2_with (go_at_call 122;refine (g.out _).mono ?_;rintro e w1 ⟨rfl,h⟩);go_ret2;exact dF E.out rfl Z4

theorem gz {x:Fld} {n:Nat} {l:List UInt8} (hp:bK x=true) (h:aH x=(n,l)):fP x=(n,l):=by
 unfold fP;rw [Y6 hp,h]
theorem zz12a (h_:p_:=by
 have h:=Blk.below (Blk.new w t #[a,b,c,d]) hb (Blk.new w t #[a,b,c,d]).lt
 exact ⟨h.cell 0,h.cell 1,h.cell 2,h.cell 3⟩):p_:=h_
theorem pF {w g:World} {t:TypeId} {a b c d:Value} (hb:Below (w.alloc (.cells #[a,b,c,d] t)).heap.size (w.alloc (.cells #[a,b,c,d] t)) g) :
  g.cell? ⟨w.heap.size,0,none⟩=some a/\g.cell? ⟨w.heap.size,1,none⟩=some b/\g.cell? ⟨w.heap.size,2,none⟩=some c/\g.cell? ⟨w.heap.size,3,none⟩=some d:=by
 exact zz12a
theorem KH (l:List (List UInt8)) (G:Txs w (.slice A l.length c) l) (R:l.length<=1000) (j:∀y∈l,y.length<=100000) :
  Calls prog 127 #[.slice A l.length c] w (fun e w'=>e=.returned (.tuple #[.string (bs (aH ⟨101,0,[],l⟩).2),.int .i64 (aH ⟨101,0,[],l⟩).1])/\Below w.heap.size w w'):=by
 by_cases o:l.length % 2=1
 ·have E:=hide (show aH ⟨101,0,[],l⟩=(3,[]) from by simp [aH,o])
  have e1:((Int.tmod (l.length:Int) 2) == 1)=true:=by
   rw [beq_iff_eq,Int.tmod_eq_emod_of_nonneg Z0];omega
  go_enter func127,ntmps127;exact zz409
 ·have e1:((Int.tmod (l.length:Int) 2) == 1)=false:=by
   rw [Y3,Int.tmod_eq_emod_of_nonneg Z0];omega
  by_cases D:16<l.length
  ·have E:=hide (show aH ⟨101,0,[],l⟩=(2,[]) from by simp [aH,o,D])
   have e2:(16:Int)<l.length:=Z0;go_enter func127,ntmps127;exact zz409
  ·have E:=hide (show aH ⟨101,0,[],l⟩=(0,om l) from by simp [aH,o,D])
   have e2:¬ (16:Int)<l.length:=Z0
   have T:Int.tdiv (l.length:Int) 2=((l.length / 2:Nat):Int):=by
    rw [Int.tdiv_eq_ediv_of_nonneg Z0];omega
   have HU:=hide (fun W=>kJ (l.length / 2) W Z0);have HT:=hide (fun W (i:Nat) (hi:i<l.length)=>iO (bs l[i]) W (by have:=j _ (Yf hi);rw [aI];omega));have HS:=hide (fun (i:Nat)=>show (kY l i).length<=1000*100004 from Yg (vL (l:=l.take i) (fun y h=>j y (List.mem_of_mem_take h))) (Nat.mul_le_mul_right 100004 (Yg (by rw [Yq];omega:(l.take i).length<=l.length) R)));have J:=hide G;have K:=hide j;clear G j;go_enter func127,ntmps127;go_wp2_with (go_at_call 87;refine (HU.out _).mono ?_;rintro e w1 ⟨rfl,q⟩)
   go_loopw [4,5] (fun v C wr=>∃i:Nat,v=.string (bs (q4 (l.length / 2)++kY l i))/\C=.int .i64 i/\i<=l.length/\Below w.heap.size w wr) (fun _ C _=>l.length - (intOf C).toNat)
   case atStart=>exact ⟨0,by rw [show kY l 0=[] from rfl,List.append_nil],rfl,Yb _,q⟩
   case round =>
    obtain ⟨i,rfl,rfl,hi,hb⟩:=hrel
    by_cases g:i<l.length
    ·have P:(i:Int)<l.length:=by omega
     obtain ⟨I,L,hv,F⟩:=(J.out.below hb).open_;obtain ⟨rfl,rfl⟩:I=A/\L=c:=Z8;obtain ⟨S,rfl,O,r⟩:=F i g;have hfl:=hide (yK g);have p:=hide (HT.out wr i g);have u:=HS.out i;have z:=K.out _ (Yf g);have B:(q4 (l.length / 2)).length+(kY l i).length<=200000000:=by rw [bM];omega
     generalize N:q4 (l.length / 2)=Q at B;generalize l[i]=y at r hfl p z;rw [aO,aI] at p;clear hv F N u;go_wp2_with (go_at_call 126;refine p.out.mono ?_;rintro e w2 ⟨rfl,hb2⟩);exact zzb9a
    ·have hil:i=l.length:=by omega
     exact zzc86
theorem zz6f4 (h_:p_:=by
 go_enter func75,ntmps75;go_wp2_with (go_at_call 122;refine (HP.out _).mono ?_;rintro e w9 ⟨rfl,hb9⟩;obtain ⟨q0,q1,q2,q3⟩:=pF hb9);go_ret2
 exact dF E.out rfl (by exact ae)):p_:=h_
theorem Qu (n:Int) (s:List UInt8) (l:List (List UInt8)) (hp:bK ⟨98,n,s,l⟩=true) :Calls prog 75 #[fD ⟨98,n,s,l⟩ (.slice A l.length c)] w (mf ⟨98,n,s,l⟩ w):=by
 have HP:=hide (fun W=>gI ⟨98,n,s,l⟩ (A:=A) (c:=c) W);rw [hp] at HP;unfold fD at HP ⊢;simp only at HP ⊢;have HT:=hide (fun W=>yu true W);have o:=hide (fun W=>yu false W)
 by_cases g:n=0
 ·subst g
  have E:=hide (gz hp (show aH ⟨98,0,s,l⟩=(0,[0]) from rfl));clear hp;go_enter func75,ntmps75;go_wp2_with (first | (go_at_call 122;refine (HP.out _).mono ?_;rintro e w9 ⟨rfl,hb9⟩;obtain ⟨q0,q1,q2,q3⟩:=pF hb9) | (go_at_call 123;refine (o.out _).mono ?_;rintro e w1 ⟨rfl,j⟩));go_ret2;exact dF E.out rfl Z4
 ·by_cases h:n=1
  ·subst h
   have E:=hide (gz hp (show aH ⟨98,1,s,l⟩=(0,[1]) from rfl));clear hp;go_enter func75,ntmps75;go_wp2_with (first | (go_at_call 122;refine (HP.out _).mono ?_;rintro e w9 ⟨rfl,hb9⟩;obtain ⟨q0,q1,q2,q3⟩:=pF hb9) | (go_at_call 123;refine (HT.out _).mono ?_;rintro e w1 ⟨rfl,j⟩));go_ret2;exact dF E.out rfl Z4
  ·have E:=hide (gz hp (show aH ⟨98,n,s,l⟩=(5,[]) from by simp [aH,g,h]))
   by_cases p:n<0
   ·clear hp g h
    exact zz6f4
   ·have q:1<n:=by omega
    clear hp g h;exact zz6f4
theorem Oo (n:Int) (s:List UInt8) (l:List (List UInt8)) (hp:bK ⟨117,n,s,l⟩=true) :Calls prog 75 #[fD ⟨117,n,s,l⟩ (.slice A l.length c)] w (mf ⟨117,n,s,l⟩ w):=by
 have h:=hide (fun W=>gI ⟨117,n,s,l⟩ (A:=A) (c:=c) W);rw [hp] at h;unfold fD at h ⊢;simp only at h ⊢
 by_cases r:n<0
 ·have E:=hide (gz hp (show aH ⟨117,n,s,l⟩=(5,[]) from by
   simp only [aH]
   rw [Y5 Z2,Y6 trivial,Y5 Z0]))
  clear hp;go_enter func75,ntmps75;go_wp2_with (go_at_call 122;refine (h.out _).mono ?_;rintro e o ⟨rfl,g⟩;obtain ⟨q0,q1,q2,j⟩:=pF g);go_ret2;exact dF E.out rfl Z4
 ·by_cases u:4294967295<n
  ·have E:=hide (gz hp (show aH ⟨117,n,s,l⟩=(5,[]) from by
    simp only [aH]
    rw [Y5 Z2,Y6 trivial,Y5 Z0]))
   clear hp;go_enter func75,ntmps75;go_wp2_with (go_at_call 122;refine (h.out _).mono ?_;rintro e o ⟨rfl,g⟩;obtain ⟨q0,q1,q2,j⟩:=pF g)
   all_goals go_ret2
   all_goals exact dF E.out rfl Z4
  ·obtain ⟨m,rfl⟩:∃m:Nat,n=m:=⟨n.toNat,Z0⟩
   have E:=hide (gz hp (show aH ⟨117,m,s,l⟩=(0,q4 m) from by
    simp only [aH];rw [Y5 Z2,Y6 trivial,Y6 ⟨Z0,Z0⟩]
    simp))
   have p:=hide (fun W=>kJ m W Z0);clear hp;go_enter func75,ntmps75;go_wp2_with (first | (go_at_call 122;refine (h.out _).mono ?_;rintro e o ⟨rfl,g⟩;obtain ⟨q0,q1,q2,j⟩:=pF g) | (go_at_call 87;refine (p.out _).mono ?_;rintro e w1 ⟨rfl,q⟩));go_ret2;exact dF E.out rfl Z4
theorem Pg {s:List UInt8} (h:dU s=true):((bs (aY s)).toList == (bs s).toList)=false:=by
 rw [ay,ay,Y3];intro e
 cases s with
 | nil=>cases h
 | cons c r =>
  have o:c=0:=by simpa [dU] using h
  subst o;have j:aY (0 :: r)=aY r:=by unfold aY;rw [List.dropWhile_cons_of_pos Z5]
  have g:=Ye List.length e;have p:=kK r;rw [j] at g;simp at g;omega
theorem FV {s:List UInt8} (h:dU s=false):((bs (aY s)).toList == (bs s).toList)=true:=by
 rw [iT h];exact beq_self_eq_true _
theorem P8 (n:Int) (s:List UInt8) (l:List (List UInt8)) (hp:bK ⟨109,n,s,l⟩=true) (hs:s.length<=100000):Calls prog 75 #[fD ⟨109,n,s,l⟩ (.slice A l.length c)] w (mf ⟨109,n,s,l⟩ w):=by
 have C:=hide (fun W=>gI ⟨109,n,s,l⟩ (A:=A) (c:=c) W);rw [hp] at C;unfold fD at C ⊢;simp only at C ⊢;have D:=hide (fun W=>xL (bs s) W ZJ);have B:=hide (fun W=>qh (bs s) W ZJ);rw [aO] at D B
 cases z:dU s with
 | true =>
  have E:=hide (gz hp (show aH ⟨109,n,s,l⟩=(3,[]) from by simp [aH,z]));have G:=Pg z;clear hp z D;generalize aY s=ps at B G;go_enter func75,ntmps75
  go_upto_region 13 with (go_at_call 122;refine (C.out _).mono ?_;rintro e q ⟨rfl,h⟩;obtain ⟨q0,q1,q2,J⟩:=pF h;have j:=h.size)
  have v:Below w.heap.size w q:=Z4;have r:=hide (Y4 q2 (Y4 j v));have g:Below q.heap.size q q.drew:=(Below.refl _ _).drew;have F:w.heap.size<q.heap.size:=by simp at j;omega
  clear q0 q1 q2 J j h
  go_region_held3 (fun W=>W.cell? ⟨w.heap.size,2,none⟩=some (.string (bs s)))
   (exact (g.cell (p:=⟨w.heap.size,2,none⟩) F).trans r.out.1)
   (first
    | (go_at_call 124;(with_reducible refine (B.out _).mono ?_);(rintro e K ⟨rfl,u⟩);(have o:=g.trans (u.mono g.size));clear g;(have g:=o);clear o)
    | fail)
  all_goals go_wp2_with fail
  all_goals go_ret2
  all_goals exact dF E.out rfl (r.out.2.2.trans (g.mono r.out.2.2.size))
 | false =>
  have E:=hide (gz hp (show aH ⟨109,n,s,l⟩=(0,dY s) from by simp [aH,z]));have G:=FV z;clear hp z;generalize aY s=ps at B G;generalize dY s=L at D E;go_enter func75,ntmps75
  go_upto_region 13 with (go_at_call 122;refine (C.out _).mono ?_;rintro e q ⟨rfl,h⟩;obtain ⟨q0,q1,q2,J⟩:=pF h;have j:=h.size)
  have v:Below w.heap.size w q:=Z4;have r:=hide (Y4 q2 (Y4 j v));have g:Below q.heap.size q q.drew:=(Below.refl _ _).drew;have F:w.heap.size<q.heap.size:=by simp at j;omega
  clear q0 q1 q2 J j h
  go_region_held3 (fun W=>W.cell? ⟨w.heap.size,2,none⟩=some (.string (bs s)))
   (exact (g.cell (p:=⟨w.heap.size,2,none⟩) F).trans r.out.1)
   (first
    | (go_at_call 124;(with_reducible refine (B.out _).mono ?_);(rintro e K ⟨rfl,u⟩);(have o:=g.trans (u.mono g.size));clear g;(have g:=o);clear o)
    | fail)
  all_goals (have q2:=(g.cell (p:=⟨w.heap.size,2,none⟩) F).trans r.out.1)
  all_goals go_wp2_with (go_at_call 125;refine (D.out _).mono ?_;rintro e w1 ⟨rfl,I⟩)
  all_goals go_ret2
  all_goals exact dF E.out rfl (r.out.2.2.trans ((g.trans (I.mono g.size)).mono r.out.2.2.size))
theorem zzdbd (h_:p_:=by
 rw [h9] at HK;clear hp h9 ht hl;go_enter func75,ntmps75
 go_wp2_with (first
  | (go_at_call 122;refine (HP.out _).mono ?_;rintro e w9 ⟨rfl,hb9⟩;obtain ⟨q0,q1,q2,q3⟩:=pF hb9)
  | (go_at_call 27;refine (HK.out _ (by exact ae)).mono ?_;rintro e w1 ⟨rfl,rfl⟩)
  | fail)
 go_ret2
 exact dF E.out rfl (by exact ae)):p_:=h_
theorem NL (n:Int) (s:List UInt8) (l:List (List UInt8)) (hp:bK ⟨110,n,s,l⟩=true) (ht:Txs w (.slice A l.length c) l) (hl:∀y∈l,y.length<=100000):Calls prog 75 #[fD ⟨110,n,s,l⟩ (.slice A l.length c)] w (mf ⟨110,n,s,l⟩ w):=by
 have HP:=hide (fun W=>gI ⟨110,n,s,l⟩ (A:=A) (c:=c) W);rw [hp] at HP;unfold fD at HP ⊢;simp only at HP ⊢;have HK:=hide (fun W (hb:Below w.heap.size w W)=>qo (ht.below hb) (fun y h=>by have:=hl y h;omega));rcases jJ l with h9 | h9 | h9
 ·have E:=hide (gz hp (show aH ⟨110,n,s,l⟩=(0,bi (dV l)) from XM))
  have j:=hide (fun W (hb:Below w.heap.size w W)=>JR (ht.below hb) h9);obtain ⟨w1,w2⟩:=jE h9;have g:=kg (l:=l) (fun y h=>(gQ (w2 y h)).2);have HT:=hide (fun W=>iO (bs (dV l)) W ZJ);rw [h9] at HK;clear hp h9 w1 w2 g ht hl;go_enter func75,ntmps75
  go_wp2_with (first
   | (go_at_call 122;refine (HP.out _).mono ?_;rintro e w9 ⟨rfl,hb9⟩;obtain ⟨q0,q1,q2,q3⟩:=pF hb9)
   | (go_at_call 27;refine (HK.out _ Z4).mono ?_;rintro e w1 ⟨rfl,rfl⟩)
   | (go_at_call 29;refine (j.out _ Z4).mono ?_;rintro e w2 ⟨rfl,rfl⟩)
   | fail)
  refine (HT.out _).mono ?_;rintro e w3 ⟨rfl,hb3⟩;go_wp2_with fail;go_ret2;exact dF E.out rfl Z4
 ·have E:=hide (gz hp (show aH ⟨110,n,s,l⟩=(2,[]) from XM))
  exact zzdbd
 ·have E:=hide (gz hp (show aH ⟨110,n,s,l⟩=(3,[]) from XM))
  exact zzdbd
theorem SN (n:Int) (s:List UInt8) (l:List (List UInt8)) (hp:bK ⟨99,n,s,l⟩=true) :Calls prog 75 #[fD ⟨99,n,s,l⟩ (.slice A l.length c)] w (mf ⟨99,n,s,l⟩ w):=by
 have HP:=hide (fun W=>gI ⟨99,n,s,l⟩ (A:=A) (c:=c) W);rw [hp] at HP;unfold fD at HP ⊢;simp only at HP ⊢
 by_cases g:s.length=16
 ·have E:=hide (gz hp (show aH ⟨99,n,s,l⟩=(0,s) from by simp [aH,g]))
  have e1:((s.length:Int) == 16)=true:=ZD;have h:((s.length:Int) != 16)=false:=XD;clear g hp;exact zz6f4
 ·have E:=hide (gz hp (show aH ⟨99,n,s,l⟩=(3,[]) from by simp [aH,g]))
  have e1:((s.length:Int) == 16)=false:=Z6;have h:((s.length:Int) != 16)=true:=XD;clear g hp;exact zz6f4
theorem NR (n:Int) (s:List UInt8) (l:List (List UInt8)) (hp:bK ⟨101,n,s,l⟩=true) (q:Txs w (.slice A l.length c) l) (u:l.length<=1000) (p:∀y∈l,y.length<=100000):Calls prog 75 #[fD ⟨101,n,s,l⟩ (.slice A l.length c)] w (mf ⟨101,n,s,l⟩ w):=by
 have g:=hide (fun W=>gI ⟨101,n,s,l⟩ (A:=A) (c:=c) W);rw [hp] at g;unfold fD at g ⊢;simp only at g ⊢;have j:=hide (fun W (hb:Below w.heap.size w W)=>KH l (q.below hb) u p)
 have o:=hide (show fP ⟨101,n,s,l⟩=aH ⟨101,0,[],l⟩ from by
  unfold fP;rw [Y6 hp]
  simp [aH])
 generalize aH ⟨101,0,[],l⟩=v at j o;clear hp q p;go_enter func75,ntmps75
 go_wp2_with (first
  | (go_at_call 122;refine (g.out _).mono ?_;rintro e B ⟨rfl,h⟩;obtain ⟨q0,q1,q2,z⟩:=pF h)
  | (go_at_call 127;refine (j.out _ Z4).mono ?_;rintro e w1 ⟨rfl,r⟩))
 go_ret2;exact dF o.out rfl Z4
theorem Lh (k:Nat) (n:Int) (s:List UInt8) (l:List (List UInt8)) (hp:bK ⟨k,n,s,l⟩=true) (hs:s.length<=100000) (h:¬ k=98) (j:¬ k=117) (o:¬ k=109) (p:¬ k=110) (q:¬ k=99) (r:¬ k=101) :
  Calls prog 75 #[fD ⟨k,n,s,l⟩ (.slice A l.length c)] w (mf ⟨k,n,s,l⟩ w):=by
 have g:=hide (fun W=>gI ⟨k,n,s,l⟩ (A:=A) (c:=c) W);rw [hp] at g;unfold fD at g ⊢;simp only at g ⊢;have HT:=hide (fun W=>iO (bs s) W ZJ);have E:=hide (gz hp (show aH ⟨k,n,s,l⟩=(0,bi s) from by simp [aH,h,j,o,p,q,r]));have z:((k:Int) == 98)=false:=jW h;have B:((k:Int) == 117)=false:=jW j;have C:((k:Int) == 109)=false:=jW o;have D:((k:Int) == 110)=false:=jW p;have F:((k:Int) == 99)=false:=jW q;have G:((k:Int) == 101)=false:=jW r;clear h j o p q r hp;go_enter func75,ntmps75
 go_wp2_with (first
  | (go_at_call 122;refine (g.out _).mono ?_;rintro e J ⟨rfl,u⟩;obtain ⟨q0,q1,q2,I⟩:=pF u)
  | (go_at_call 126;refine (HT.out _).mono ?_;rintro e w1 ⟨rfl,v⟩))
 go_ret2;exact dF E.out rfl Z4
theorem PV (x:Fld) (B:SzF x) (j:Txs w (.slice A x.l.length c) x.l):Calls prog 75 #[fD x (.slice A x.l.length c)] w (mf x w):=by
 cases hp:bK x with
 | false=>exact Pe x hp
 | true =>
  obtain ⟨k,n,s,l⟩:=x;obtain ⟨g,z,h⟩:=B
  by_cases o:k=98
  ·subst o;exact Qu n s l hp
  by_cases p:k=117
  ·subst p;exact Oo n s l hp
  by_cases q:k=109
  ·subst q;exact P8 n s l hp g
  by_cases r:k=110
  ·subst r;exact NL n s l hp j h
  by_cases u:k=99
  ·subst u;exact SN n s l hp
  by_cases v:k=101
  ·subst v;exact NR n s l hp j z h
  exact Lh k n s l hp g o p q r u v
end
theorem quiet_of {P:Program} {f:FuncId} {args:Array Value} {w:World} {n:Nat} {v:Value} (h:Calls P f args (w.drewN n) fun e w'=>e=.returned v/\w'=w.drewN n) :
  Calls P f args (w.drewN n) fun e w'=>e=.returned v/\∃m,w'=w.drewN m:=h.mono fun _ _ h=>⟨h.1,n,h.2⟩
theorem Tv (h:¬ 16<=l.length) (g:l.all bA=true):bJ l=0:=by rw [ry h,Y6 g]
theorem TM (h:¬ 16<=l.length) (g:l.all bA=false):bJ l=3:=by rw [ry h,g];rfl
section
variable {w : World}
theorem zz1dd (h_:p_:=by
 go_wp2_with fail;go_ret
 exact ⟨by rw [E.out];rfl,Below.refl _ _⟩):p_:=h_
theorem zzd70 (h_:p_:=by
 go_wp2_with (go_at_call 287;refine HO.out.mono ?_;rintro e w1 ⟨rfl,rfl⟩);go_ret
 exact ⟨by rw [E.out];rfl,Below.refl _ _⟩):p_:=h_
theorem zzb06 (h_:p_:=by
 go_wp2_with (first | (go_at_call 287;refine HO.out.mono ?_;rintro e w1 ⟨rfl,rfl⟩) | (go_at_call 202;refine HJ.out.mono ?_;rintro e w2 ⟨rfl,hb2⟩));go_ret
 exact ⟨by rw [E.out];rfl,hb2⟩):p_:=h_
theorem MX (h:Txs w (.slice A ls.length c) ls) (p:ls.length<=c) (q:ls.length<=1000000) (u:∀y∈ls,y.length<=1000000) :
  Calls prog 248 #[.slice A ls.length c] w (fun e w'=>e=.returned (.int .i64 (dG ls))/\Below w.heap.size w w'):=by
 have HO:=hide (Cf h p q);have HJ:=hide (rZ h p (fun y C=>Yg (u y C) Z2))
 by_cases j:ls.length=0
 ·have B:((ls.length:Int) == 0)=true:=by rw [j];rfl
  have E:=hide (show dG ls=6 from zZ j);clear j h p q u HO HJ;go_enter func248,ntmps248;exact zz1dd
 ·have B:((ls.length:Int) == 0)=false:=by rw [Y3];omega
  by_cases g:16<=ls.length
  ·have v:(16:Int)<=ls.length:=by omega
   have E:=hide (show dG ls=2 from uQ g);clear j g h p q u HO HJ;go_enter func248,ntmps248;exact zz1dd
  ·have v:¬ (16:Int)<=ls.length:=by omega
   cases o:lC ls with
   | false =>
    rw [o] at HO;have E:=hide (show dG ls=3 from pu j g (by rw [o];rfl));clear j g h p q u HJ o;go_enter func248,ntmps248;exact zzd70
   | true =>
    rw [o] at HO
    cases r:ls.all bA with
    | false =>
     rw [TM g r] at HJ;have E:=hide (show dG ls=3 from pu j g (by rw [o,r];rfl));clear j g h p q u o r;go_enter func248,ntmps248;exact zzb06
    | true =>
     rw [Tv g r] at HJ;have z:dG ls=0:=qM j g (by rw [o,r];rfl);have E:=hide z;clear j g h p q u o r z;go_enter func248,ntmps248;exact zzb06
theorem zzfdf (h_:p_:=by
 rw [Yh hlt] at hx;rcases Yy.1 hx with hx | hx
 ·exact H.out rfl x hx
 ·simp only [Ym] at hx
  subst hx
  exact hm):p_:=h_
theorem zz8f6 (h_:p_:=by
 have hkw:EE ls=true:=by
  unfold EE;rw [List.all_eq_true];intro x hx;rw [Y7 (H.out rfl x (by rw [Yp (by omega)];exact hx))];rfl
 exact IY Hz.out hkw true):p_:=h_
theorem El (K:gL w) (h:Txs w (.slice A ls.length c) ls) (u:ls.length<=c) (C:ls.length<=1000000) (z:∀y∈ls,y.length<=1000000) (g:Bool) :
  Calls prog 273 #[.slice A ls.length c,.bool g] w (fun e w'=>e=.returned (.int .i64 (dN ls g))/\Below w.heap.size w w'):=by
 have HO:=hide (Cf h u C);have HJ:=hide (rZ h u (fun y hm=>Yg (z y hm) Z2))
 by_cases p:ls.length=0
 ·have Q:((ls.length:Int) == 0)=true:=by rw [p];rfl
  have E:=hide (show dN ls g=6 from lm g (zZ p) Z2);clear p h u C z HO HJ;go_enter func273,ntmps273;exact zz1dd
 ·have Q:((ls.length:Int) == 0)=false:=by rw [Y3];omega
  by_cases j:16<=ls.length
  ·have F:(16:Int)<=ls.length:=by omega
   have E:=hide (show dN ls g=2 from lm g (uQ j) Z2);clear p j h u C z HO HJ;go_enter func273,ntmps273;exact zz1dd
  ·have F:¬ (16:Int)<=ls.length:=by omega
   cases r:lC ls with
   | false =>
    rw [r] at HO;have E:=hide (show dN ls g=3 from lm g (pu p j (by rw [r];rfl)) Z2);clear p j h u C z HJ r;go_enter func273,ntmps273;exact zzd70
   | true =>
    rw [r] at HO
    cases v:ls.all bA with
    | false =>
     rw [TM j v] at HJ;have E:=hide (show dN ls g=3 from lm g (pu p j (by rw [r,v];rfl)) Z2);clear p j h u C z r v;go_enter func273,ntmps273;exact zzb06
    | true =>
     rw [Tv j v] at HJ;have N:dG ls=0:=qM p j (by rw [r,v];rfl);obtain ⟨O,P,hv,J⟩:=h.open_;obtain ⟨rfl,rfl⟩:O=A/\P=c:=Z8;have o:=hide (fun (W:World) (hb:Below w.heap.size w W) s=>Gn (K.below hb) s);have B:=hide J;clear p j h u z r v hv K J;have Hz:=hide N;clear N;go_enter func273,ntmps273;go_wp2_with (first | (go_at_call 287;refine HO.out.mono ?_;rintro e w1 ⟨rfl,rfl⟩) | (go_at_call 202;refine HJ.out.mono ?_;rintro e w2 ⟨rfl,hb2⟩));have q:=hide hb2;clear hb2 HO HJ
     go_loop [31] (fun i=>∃k:Nat,k<=ls.length/\i=.int .i64 k/\Hid (g=true->∀x∈ls.take k,bv x≠0)) (fun i=>ls.length - (intOf i).toNat)
     case atStart=>exact ⟨0,Yb _,rfl,hide Z3⟩
     case round =>
      obtain ⟨k,T,rfl,H⟩:=hrel
      by_cases hlt:k<ls.length
      ·obtain ⟨S,rfl,G,I⟩:=B.out k hlt
       have L:=(jA q.out G I)
       have D:=hide (o.out _ q.out ls[k])
       cases g with
       | false =>
        have H2:=hide (show false=true->∀x∈ls.take (k+1),bv x≠0 from fun e=>Xv);clear H D o B;go_wp2_with fail;exact zz4fa
       | true =>
        by_cases hm:bv ls[k]=0
        ·rw [hm] at D
         have E:=hide (G6 Hz.out (qz (Yf hlt) (by rw [Y8 hm];rfl)));clear H hm o B;go_wp2_with (go_at_call 304;refine D.out.mono ?_;rintro e w3 ⟨rfl,rfl⟩);go_ret;exact ⟨Zi,q.out⟩
        ·have R:(bv ls[k] == 0)=false:=by rw [Y3];exact hm
         have H2:=hide (show true=true->∀x∈ls.take (k+1),bv x≠0 from fun e x hx=>by
          exact zzfdf)
         clear H o B hm;go_wp2_with (go_at_call 304;refine D.out.mono ?_;rintro e w3 ⟨rfl,rfl⟩);exact zz4fa
      ·have E:=hide (show dN ls g=0 from by
        cases g with
        | false=>exact IM Hz.out
        | true =>
         exact zz8f6)
       clear H o B;go_wp2_with fail;go_ret;exact ⟨Zi,q.out⟩
theorem zz1a9 (h_:p_:=by
 rw [ug (l:=ls) (fun i hi=>H.out.2 i hi (by omega)),YH,List.all_eq_true]
 exact fun x hx=>H.out.1 x (by rw [Yp (by omega)];exact hx)):p_:=h_
theorem zz15d (h_:p_:=by
 clear hr H HH HR HA hz Hno Hyes hcl;generalize ls[k]=y at HR2 hcl2;go_upto_region 8 with fail;go_quiet ((go_at_call 70;exact HR2.out _));go_wp2_with fail;go_ret
 exact ⟨by rw [E.out];rfl,below_drewN HB.out _⟩):p_:=h_
theorem zz7b7 (h_:p_:=by
 clear hm hr H HH HR HA hz Hno Hyes hcl;generalize ls[k]=y at HR2 HC hcl2;go_upto_region 8 with fail;go_quiet (first | (go_at_call 70;exact HR2.out _) | (go_at_call 78;exact HC.out _));go_wp2_with fail;go_ret
 exact ⟨by rw [E.out];rfl,below_drewN HB.out _⟩):p_:=h_
theorem zz53d (h_:p_:=by
 have H2:=hide (show (∀x∈ls.take (k+1),bA x=true)/\∀i,(hi:i<ls.length)->i<k+1->ls[i] ∉ ls.take i from ⟨fun x hx=>by
  rw [Yh hlt] at hx;rcases Yy.1 hx with hx | hx
  ·exact H.out.1 x hx
  ·simp only [Ym] at hx
   subst hx
   exact hr,fun i hi h2=>by
  by_cases e:i=k
  ·subst e;exact hm
  ·exact H.out.2 i hi (by omega)⟩)
 clear hm hr H HH HR HA Hno Hyes hcl;generalize ls[k]=y at HR2 HC hcl2;go_upto_region 8 with fail;go_quiet (first | (go_at_call 70;exact HR2.out _) | (go_at_call 78;exact HC.out _));go_wp2_with fail;go_round
 case rel=>exact ⟨⟨k+1,hlt,by go_num,H2⟩,hide (below_drewN HB.out _)⟩
 case measure=>simp [intOf];omega):p_:=h_
theorem yB (h:Txs w (.slice A ls.length c) ls) (D:ls.length<=c) (F:ls.length<=1000000) (u:∀y∈ls,y.length<=1000000) :
  Calls prog 230 #[.slice A ls.length c] w (fun e w'=>e=.returned (.int .i64 (dG ls))/\Below w.heap.size w w'):=by
 have HH:=hide (fun (W:World) (hb:Below w.heap.size w W) k (p:k<=ls.length) s=>vO (xD (h.below hb) p) ZS s)
 by_cases o:ls.length=0
 ·have I:((ls.length:Int) == 0)=true:=by rw [o];rfl
  have E:=hide (show dG ls=6 from zZ o);clear o h D F u HH;go_enter func230,ntmps230;exact zz1dd
 ·have I:((ls.length:Int) == 0)=false:=by rw [Y3];omega
  by_cases g:16<=ls.length
  ·have v:(15:Int)<ls.length:=by omega
   have E:=hide (show dG ls=2 from uQ g);clear o g h D F u HH;go_enter func230,ntmps230;exact zz1dd
  ·have v:¬ (15:Int)<ls.length:=by omega
   have HR:=hide (fun (W:World) k (p:k<ls.length)=>qf (bs ls[k]) (Yg (u _ (Yf p)) Z2) W);obtain ⟨G,r,hv,C⟩:=h.open_;obtain ⟨rfl,rfl⟩:G=A/\r=c:=Z8;have HA:=hide C;have Hno:=hide (fun (x:(lC ls && ls.all bA)=false)=>pu o g x);have Hyes:=hide (fun (x:(lC ls && ls.all bA)=true)=>qM o g x);clear o g h u hv C;go_enter func230,ntmps230;go_wp2_with fail
   go_loopw [3] (fun i wr=>(∃k:Nat,k<=ls.length/\i=.int .i64 k/\Hid ((∀x∈ls.take k,bA x=true)/\∀j,(hj:j<ls.length)->j<k->ls[j] ∉ ls.take j))/\Hid (Below w.heap.size w wr)) (fun i _=>ls.length - (intOf i).toNat)
   case atStart=>exact ⟨⟨0,Yb _,rfl,hide ⟨Z3,fun i hi o=>absurd o (Nat.not_lt_zero _)⟩⟩,hide (Below.refl _ _)⟩
   case round =>
    obtain ⟨⟨k,p,rfl,H⟩,HB⟩:=hrel
    by_cases hlt:k<ls.length
    ·have q:(k:Int)<ls.length:=by omega
     obtain ⟨B,rfl,z,hcl⟩:=HA.out k hlt;have J:k<=r:=Z0
     have hcl2:=(jA HB.out z hcl)
     cases hr:bA ls[k] with
     | false =>
      have HR2:=hide (show ∀n,Calls prog 70 #[.string (bs ls[k])] (wr.drewN n) (fun e w'=>e=.returned (.bool false)/\∃m,w'=wr.drewN m) from fun n=>quiet_of (by have:=HR.out (wr.drewN n) k hlt;rwa [aO,hr] at this));have hz:dG ls=3:=Hno.out (by rw [qz (Yf hlt) hr,Bool.and_false]);have E:=hide hz;exact zz15d
     | true =>
      have HR2:=hide (show ∀n,Calls prog 70 #[.string (bs ls[k])] (wr.drewN n) (fun e w'=>e=.returned (.bool true)/\∃m,w'=wr.drewN m) from fun n=>quiet_of (by have:=HR.out (wr.drewN n) k hlt;rwa [aO,hr] at this))
      by_cases hm:ls[k]∈ls.take k
      ·have HC:=hide (show ∀n,Calls prog 78 #[.slice (some B) k r,.string (bs ls[k])] (wr.drewN n) (fun e w'=>e=.returned (.bool true)/\∃m,w'=wr.drewN m) from fun n=>quiet_of (by have:=HH.out (wr.drewN n) (below_drewN HB.out n) k p ls[k];rwa [Yq,Nat.min_eq_left p,Y8 hm] at this))
       have hz:dG ls=3:=Hno.out (by rw [vU hlt hm,YI]);have E:=hide hz;exact zz7b7
      ·have HC:=hide (show ∀n,Calls prog 78 #[.slice (some B) k r,.string (bs ls[k])] (wr.drewN n) (fun e w'=>e=.returned (.bool false)/\∃m,w'=wr.drewN m) from fun n=>quiet_of (by have:=HH.out (wr.drewN n) (below_drewN HB.out n) k p ls[k];rwa [Yq,Nat.min_eq_left p,Y7 hm] at this))
       exact zz53d
    ·have q:¬ (k:Int)<ls.length:=by omega
     have hz:dG ls=0:=Hyes.out (by
      exact zz1a9)
     have E:=hide hz;clear H HH HR HA hz Hno Hyes;exact zz884
theorem Eg (h:Txs w (.slice A ls.length c) ls) (G:ls.length<=c) (I:ls.length<=1000000) (B:∀y∈ls,y.length<=1000000) (g:Bool) :
  Calls prog 228 #[.slice A ls.length c,.bool g] w (fun e w'=>e=.returned (.int .i64 (dN ls g))/\Below w.heap.size w w'):=by
 have HH:=hide (fun (W:World) (hb:Below w.heap.size w W) k (u:k<=ls.length) s=>vO (xD (h.below hb) u) ZS s)
 by_cases r:ls.length=0
 ·have K:((ls.length:Int) == 0)=true:=by rw [r];rfl
  have E:=hide (show dN ls g=6 from lm g (zZ r) Z2);clear r h G I B HH;go_enter func228,ntmps228;exact zz1dd
 ·have K:((ls.length:Int) == 0)=false:=by rw [Y3];omega
  by_cases p:16<=ls.length
  ·have D:(15:Int)<ls.length:=by omega
   have E:=hide (show dN ls g=2 from lm g (uQ p) Z2);clear r p h G I B HH;go_enter func228,ntmps228;exact zz1dd
  ·have D:¬ (15:Int)<ls.length:=by omega
   have HR:=hide (fun (W:World) k (u:k<ls.length)=>qf (bs ls[k]) (Yg (B _ (Yf u)) Z2) W);obtain ⟨J,z,hv,F⟩:=h.open_;obtain ⟨rfl,rfl⟩:J=A/\z=c:=Z8;have HA:=hide F;have Hno:=hide (fun (x:(lC ls && ls.all bA)=false)=>pu r p x);have Hyes:=hide (fun (x:(lC ls && ls.all bA)=true)=>qM r p x);clear r p h B hv F;go_enter func228,ntmps228;go_wp2_with fail
   go_loopw [5] (fun i wr=>(∃k:Nat,k<=ls.length/\i=.int .i64 k/\Hid ((∀x∈ls.take k,bA x=true)/\∀j,(hj:j<ls.length)->j<k->ls[j] ∉ ls.take j))/\Hid (Below w.heap.size w wr)) (fun i _=>ls.length - (intOf i).toNat)
   case atStart=>exact ⟨⟨0,Yb _,rfl,hide ⟨Z3,fun i hi r=>absurd r (Nat.not_lt_zero _)⟩⟩,hide (Below.refl _ _)⟩
   case round =>
    obtain ⟨⟨k,u,rfl,H⟩,HB⟩:=hrel
    by_cases hlt:k<ls.length
    ·have q:(k:Int)<ls.length:=by omega
     obtain ⟨C,rfl,v,hcl⟩:=HA.out k hlt;have L:k<=z:=Z0
     have hcl2:=(jA HB.out v hcl)
     cases hr:bA ls[k] with
     | false =>
      have HR2:=hide (show ∀n,Calls prog 70 #[.string (bs ls[k])] (wr.drewN n) (fun e w'=>e=.returned (.bool false)/\∃m,w'=wr.drewN m) from fun n=>quiet_of (by have:=HR.out (wr.drewN n) k hlt;rwa [aO,hr] at this));have hz:dG ls=3:=Hno.out (by rw [qz (Yf hlt) hr,Bool.and_false]);have E:=hide (lm g hz Z2);exact zz15d
     | true =>
      have HR2:=hide (show ∀n,Calls prog 70 #[.string (bs ls[k])] (wr.drewN n) (fun e w'=>e=.returned (.bool true)/\∃m,w'=wr.drewN m) from fun n=>quiet_of (by have:=HR.out (wr.drewN n) k hlt;rwa [aO,hr] at this))
      by_cases hm:ls[k]∈ls.take k
      ·have HC:=hide (show ∀n,Calls prog 78 #[.slice (some C) k z,.string (bs ls[k])] (wr.drewN n) (fun e w'=>e=.returned (.bool true)/\∃m,w'=wr.drewN m) from fun n=>quiet_of (by have:=HH.out (wr.drewN n) (below_drewN HB.out n) k u ls[k];rwa [Yq,Nat.min_eq_left u,Y8 hm] at this))
       have hz:dG ls=3:=Hno.out (by rw [vU hlt hm,YI]);have E:=hide (lm g hz Z2);exact zz7b7
      ·have HC:=hide (show ∀n,Calls prog 78 #[.slice (some C) k z,.string (bs ls[k])] (wr.drewN n) (fun e w'=>e=.returned (.bool false)/\∃m,w'=wr.drewN m) from fun n=>quiet_of (by have:=HH.out (wr.drewN n) (below_drewN HB.out n) k u ls[k];rwa [Yq,Nat.min_eq_left u,Y7 hm] at this))
       exact zz53d
    ·have q:¬ (k:Int)<ls.length:=by omega
     have hz:dG ls=0:=Hyes.out (by
      exact zz1a9)
     have Hz:=hide hz;clear H HH HR hz Hno Hyes;have o:=hide (fun (W:World) s=>Ce s W);go_wp2_with fail
     go_loopw [6] (fun i wr=>(∃k:Nat,k<=ls.length/\i=.int .i64 k/\Hid (g=true->∀x∈ls.take k,bv x≠0))/\Hid (Below w.heap.size w wr)) (fun i _=>ls.length - (intOf i).toNat)
     case atStart=>exact ⟨⟨0,Yb _,rfl,hide Z3⟩,HB⟩
     case round =>
      obtain ⟨⟨k,u,rfl,H⟩,HB⟩:=hrel
      by_cases hlt:k<ls.length
      ·have q:(k:Int)<ls.length:=by omega
       obtain ⟨C,rfl,v,hcl⟩:=HA.out k hlt
       have hcl2:=(jA HB.out v hcl)
       have HC:=hide (o.out wr ls[k])
       cases g with
       | false =>
        have H2:=hide (show false=true->∀x∈ls.take (k+1),bv x≠0 from fun e=>Xv);clear H HC o HA hcl;go_wp2_with fail;go_round
        case rel=>exact ⟨⟨k+1,hlt,Zr,H2⟩,HB⟩
        case measure=>simp [intOf];omega
       | true =>
        by_cases hm:bv ls[k]=0
        ·rw [hm] at HC
         have E:=hide (G6 Hz.out (qz (Yf hlt) (by rw [Y8 hm];rfl)));clear H hm o HA hcl;go_wp2_with (go_at_call 276;refine HC.out.mono ?_;rintro e w3 ⟨rfl,hb3⟩);go_ret;exact ⟨Zi,HB.out.trans (hb3.mono HB.out.size)⟩
        ·have N:(bv ls[k] == 0)=false:=by rw [Y3];exact hm
         have H2:=hide (show true=true->∀x∈ls.take (k+1),bv x≠0 from fun e x hx=>by
          exact zzfdf)
         clear H o HA hm hcl;go_wp2_with (go_at_call 276;refine HC.out.mono ?_;rintro e w3 ⟨rfl,hb3⟩);have HB3:=hide (HB.out.trans (hb3.mono HB.out.size));go_round
         case rel=>exact ⟨⟨k+1,hlt,Zr,H2⟩,HB3⟩
         case measure=>simp [intOf];omega
      ·have q:¬ (k:Int)<ls.length:=by omega
       have E:=hide (show dN ls g=0 from by
        cases g with
        | false=>exact IM Hz.out
        | true =>
         exact zz8f6)
       clear H o HA;exact zz884
end
def Rd3 (w:World) (g:Nat) (r:List UInt8) (e:Int):Prop:=Blk w g 269 #[.string (bs r),.int .i64 e]
theorem Rd3.below {w:World} {g:Nat} {r:List UInt8} (h:Rd3 w g r e) (j:Below w.heap.size w w'):Rd3 w' g r e:=Blk.below h j (Blk.lt h)
def JB {α:Type} (f:α->Value) (z:Value) (R:Res α) (w:World) (g:Nat) (e:Ending) (w':World):Prop :=
 (∃a r',R=.ok a r'/\e=.returned (f a)/\Rd3 w' g r' 0/\w.grownBy w' (some g))\/(∃x r',R=.no x/\x≠0/\e=.returned z/\Rd3 w' g r' (x:Nat)/\w.grownBy w' (some g))
theorem FB (l:List UInt8) (n:Nat):(bs l).extract 0 n=bs (l.take n):=by
 have:=mR (bs l) 0 n;rw [Nat.zero_add,aO,List.drop_zero] at this;exact this
theorem RI (l:List UInt8) (n:Nat):(bs l).extract n l.length=bs (l.drop n):=by
 apply kG;rw [Lib.extract_data,aO];exact Yp XJ
def EA (l:List UInt8):Nat:=l.foldl (fun a b=>256*a+b.toNat) 0
theorem Jo (l:List UInt8) (b:UInt8):EA (l++[b])=256*EA l+b.toNat:=by
 unfold EA;rw [List.foldl_append];rfl
theorem O9 {l:List UInt8} (h:l.length=4):EA l=n4 l:=by
 match l,h with
 | [x,y,z,u],_ =>
  have j:=x.toNat_lt;have o:=y.toNat_lt;have p:=z.toNat_lt;have q:=u.toNat_lt;simp only [EA,n4,List.foldl_cons,List.foldl_nil];omega
theorem ql (s:ByteArray) (w:World) (hs:s.size<=4):Calls prog 293 #[.string s] w fun e w'=>e=.returned (.int .i64 (EA s.data.toList))/\w'=w:=by
 go_enter func293,ntmps293;go_wp2
 go_loop [3,4] (fun v i=>∃k y:Nat,y<256 ^ k/\k<=s.size/\i=.int .i64 k/\v=.int .i64 y/\Hid (y=EA (s.data.toList.take k))) (fun _ i=>s.size - (intOf i).toNat)
 case atStart=>exact ⟨0,0,Z2,Yb _,rfl,rfl,hide rfl⟩
 case round =>
  obtain ⟨k,y,q,A,rfl,rfl,H⟩:=hrel
  by_cases h:k<s.size
  ·have u:y<16777216:=Yi q (show 256 ^ k<=256 ^ 3 from Nat.pow_le_pow_right Z2 Z0)
   have z:=s[k].toNat_lt;have o:IntKind.i64.wrap (256*(y:Int))=256*(y:Int):=wrap_small _ Z0 Z0;have p:IntKind.i64.wrap (256*(y:Int)+(s[k].toNat:Int))=256*(y:Int)+(s[k].toNat:Int):=wrap_small _ Z0 Z0;go_wp2;go_round
   case rel =>
    refine ⟨k+1,256*y+s[k].toNat,?_,h,Zr,Zr,hide ?_⟩
    ·rw [Nat.pow_succ]
     omega
    ·rw [H.out]
     have j:k<s.data.toList.length:=h;rw [Yh j,Jo];rfl
   case measure=>simp [intOf];omega
  ·go_wp2
   go_ret;exact ⟨oN (by rw [H.out,Yp (by show s.size<=k;omega)]),rfl⟩
section
variable {w : World} {g : Nat} {r : List UInt8} {x : Int}
theorem jK (h:Rd3 w g r 0) (F:r.length<=1000000) (n:Nat) (z:n<4294967296):Calls prog 259 #[.pointer (some ⟨g,0,none⟩),.int .i64 n] w (JB (fun l=>.string (bs l)) (.string ⟨#[]⟩) (fG n r) w g):=by
 have I:w.cell? ⟨g,0,none⟩=some (.string (bs r)):=Blk.cell h 0;have J:w.cell? ⟨g,1,none⟩=some (.int .i64 0):=Blk.cell h 1;have G:w.frozen? ⟨g,0,none⟩=false:=Blk.frozen h 0;have f1:w.frozen? ⟨g,1,none⟩=false:=Blk.frozen h 1;have C:¬ (n:Int)<0:=Z0;have o:(bs r).size=r.length:=rfl
 by_cases j:r.length<n
 ·have q:((bs r).size:Int)<n:=by rw [o];omega
  have v:=hide (show Rd3 (w.setCell ⟨g,1,none⟩ (.int .i64 4)) g r 4 from by
   have:=Blk.set_ h 1 (.int .i64 4);unfold Rd3
   simpa using this)
  have u:=hide (show fG n r=.no 4 from by unfold fG;rw [Y6 j]);have HO:=hide (ah (az w (some g)) (p:=⟨g,1,none⟩) (.inl rfl) (.int .i64 4));clear h z j F;go_enter func259,ntmps259;go_wp2_with fail;go_ret;exact .inr ⟨4,r,u.out,Z2,rfl,v.out,HO.out⟩
 ·have q:¬ ((bs r).size:Int)<n:=by rw [o];omega
  have B:n<=(bs r).size:=by rw [o];omega
  have v:=hide (show Rd3 (w.setCell ⟨g,0,none⟩ (.string ((bs r).extract n (bs r).size))) g (r.drop n) 0 from by
   have:=Blk.set_ h 0 (.string ((bs r).extract n (bs r).size));rw [o,RI] at this ⊢;unfold Rd3
   simpa using this)
  have u:=hide (show fG n r=.ok (r.take n) (r.drop n) from by unfold fG;rw [Y5 j]);have HO:=hide (ah (az w (some g)) (p:=⟨g,0,none⟩) (.inl rfl) (.string ((bs r).extract n (bs r).size)));have A:=hide (FB r n);have D:IntKind.i64.wrap (n:Int)=n:=wrap_small _ Z0 Z0;clear h z j;go_enter func259,ntmps259;go_wp2_with fail;go_ret;exact .inl ⟨r.take n,r.drop n,u.out,by rw [A.out];rfl,v.out,HO.out⟩
theorem tC {n:Nat} {r:List UInt8} (h:r.length<n):fG n r=.no 4:=by unfold fG;rw [Y6 h]
theorem lL {n:Nat} {r:List UInt8} (h:¬ r.length<n):fG n r=.ok (r.take n) (r.drop n):=by unfold fG;rw [Y5 h]
theorem zz26c (h_:p_:=by
 go_wp2_with fail;refine HB.out.mono ?_;rintro e w3 (⟨a,r',hg,_⟩ | ⟨x,r',hg,hx0,rfl,hr3,ho⟩)
 ·cases hg
 cases hg
 go_wp2_with fail;go_ret
 exact .inr ⟨4,r',rfl,by decide,rfl,hr3,ho⟩):p_:=h_
theorem F4 (h:Rd3 w g r 0) (o:r.length<=1000000):Calls prog 292 #[.pointer (some ⟨g,0,none⟩)] w (JB (fun l:List UInt8=>.int .u8 (l.headD 0).toNat) (.int .u8 0) (fG 1 r) w g):=by
 have HB:=hide (jK h o 1 Z0)
 cases r with
 | nil =>
  rw [tC Z3] at HB ⊢;go_enter func292,ntmps292;exact zz26c
 | cons c r =>
  rw [lL Z3] at HB ⊢;have p:0<(bs [c]).size:=Nat.zero_lt_one;have j:(bs [c])[0]=c:=rfl;go_enter func292,ntmps292;go_wp2_with fail;refine HB.out.mono ?_;rintro e w3 (⟨a,r',hg,rfl,hr3,ho⟩ | ⟨x,r',hg,_⟩)
  ·injection hg with e1 e2
   subst e1 e2;rw [show List.take 1 (c :: r)=[c] from rfl];rw [show List.drop 1 (c :: r)=r from rfl] at hr3;go_wp2_with fail;go_ret;exact .inl ⟨[c],r,rfl,rfl,hr3,ho⟩
  ·cases hg
theorem FW (h:Rd3 w g r 0) (o:r.length<=1000000):Calls prog 254 #[.pointer (some ⟨g,0,none⟩)] w (JB (fun n:Int=>.bool (n == 1)) (.bool false) (nI r) w g):=by
 have D:w.cell? ⟨g,0,none⟩=some (.string (bs r)):=Blk.cell h 0;have F:w.cell? ⟨g,1,none⟩=some (.int .i64 0):=Blk.cell h 1;have f1:w.frozen? ⟨g,1,none⟩=false:=Blk.frozen h 1;have HB:=hide (F4 h o)
 cases r with
 | nil =>
  have B:¬ (0:Int)<(bs ([]:List UInt8)).size:=X6;rw [tC Z3] at HB;clear h o;go_enter func254,ntmps254;exact zz26c
 | cons c r =>
  have B:(0:Int)<(bs (c :: r)).size:=X6;have C:0<(bs (c :: r)).size:=X6;have j:(bs (c :: r))[0]=c:=rfl;have A:=c.toNat_lt
  by_cases v:c.toNat<=1
  ·have u:¬ (1:Int)<(bs (c :: r))[0].toNat:=by rw [j];omega
   have q:=hide (show nI (c :: r)=.ok c.toNat r from by rw [iL,Y6 v]);rw [lL Z3,show List.take 1 (c :: r)=[c] from rfl,show List.drop 1 (c :: r)=r from rfl] at HB;clear j h o;go_enter func254,ntmps254;go_wp2_with fail;refine HB.out.mono ?_;rintro e w3 (⟨a,r',hg,rfl,hr3,ho⟩ | ⟨x,r',hg,_⟩)
   ·injection hg with e1 e2
    subst e1 e2;simp only [List.headD_cons];go_wp2_with fail;go_ret;exact .inl ⟨_,_,q.out,rfl,hr3,ho⟩
   ·cases hg
  ·have u:(1:Int)<(bs (c :: r))[0].toNat:=by rw [j];omega
   have q:=hide (show nI (c :: r)=.no 3 from by rw [iL,Y5 v])
   have z:=hide (show Rd3 (w.setCell ⟨g,1,none⟩ (.int .i64 3)) g (c :: r) 3 from by
    have:=Blk.set_ h 1 (.int .i64 3);unfold Rd3
    simpa using this)
   have HO:=hide (ah (az w (some g)) (p:=⟨g,1,none⟩) (.inl rfl) (.int .i64 3));clear j h o HB;go_enter func254,ntmps254;go_wp2_with fail;go_ret;exact .inr ⟨3,_,q.out,Z2,rfl,z.out,HO.out⟩
theorem yD (h:Rd3 w g r 0) (C:r.length<=1000000):Calls prog 255 #[.pointer (some ⟨g,0,none⟩)] w (JB (fun n:Nat=>.int .u32 n) (.int .u32 0) (lJ r) w g):=by
 have HB:=hide (jK h C 4 Z0)
 by_cases v:r.length<4
 ·have u:=hide (show lJ r=.no 4 from by unfold lJ;rw [Y6 v])
  have q:=hide (fun W=>ql ⟨#[]⟩ W Z2);rw [tC v] at HB;go_enter func255,ntmps255;go_wp2_with fail;refine HB.out.mono ?_;rintro e w3 (⟨a,z,j,_⟩ | ⟨x,z,j,D,rfl,p,A⟩)
  ·cases j
  cases j
  go_wp2_with (go_at_call 293;refine (q.out _).mono ?_;rintro e G ⟨rfl,rfl⟩);go_ret;exact .inr ⟨4,z,u.out,Z2,rfl,p,A⟩
 ·have u:=hide (show lJ r=.ok (n4 r) (r.drop 4) from by unfold lJ;rw [Y5 v])
  have q:=hide (fun W=>ql (bs (r.take 4)) W (by rw [aI,Yq];omega));rw [lL v] at HB;rw [aO,O9 ZS,AC Z0] at q;have o:=jG r
  have hw:IntKind.u32.wrap (n4 r:Int)=n4 r:=by
   exact zz7df
  generalize n4 r=F at u q hw o;go_enter func255,ntmps255;go_wp2_with fail;refine HB.out.mono ?_;rintro e w3 (⟨a,z,j,rfl,p,A⟩ | ⟨x,z,j,_⟩)
  ·injection j with e1 e2
   subst e1 e2;have B:=hide o;clear o;go_wp2_with (go_at_call 293;refine (q.out _).mono ?_;rintro e G ⟨rfl,rfl⟩);go_ret;exact .inl ⟨F,_,u.out,rfl,p,A⟩
  ·cases j
theorem mW (h:Rd3 w g r 0) (I:r.length<=1000000):Calls prog 257 #[.pointer (some ⟨g,0,none⟩)] w (JB (fun l=>.string (bs l)) (.string ⟨#[]⟩) (dA r) w g):=by
 have K:w.cell? ⟨g,0,none⟩=some (.string (bs r)):=Blk.cell h 0;have V:w.cell? ⟨g,1,none⟩=some (.int .i64 0):=Blk.cell h 1;have o:(bs r).size=r.length:=rfl
 by_cases F:r.length<4
 ·have v:((bs r).size:Int)<4:=by rw [aI];omega
  have z:=hide (oh F)
  have J:=hide (fun m=>show Rd3 ((w.drewN m).setCell ⟨g,1,none⟩ (.int .i64 4)) g r 4 from by
   have:=Blk.set_ (Blk.drewN h m) 1 (.int .i64 4);unfold Rd3
   simpa using this)
  have f1:w.frozen? ⟨g,1,none⟩=false:=Blk.frozen h 1;have HO:=hide (fun m=>ah (aL (az w (some g)) m) (p:=⟨g,1,none⟩) (.inl rfl) (.int .i64 4));generalize bs r=s at K v o;clear h I o;go_enter func257,ntmps257;go_upto_region 3 with fail;go_quiet (fail);go_wp2_with fail;go_ret;exact .inr ⟨4,r,z.out,Z2,rfl,J.out _,HO.out _⟩
 ·have v:¬ ((bs r).size:Int)<4:=by rw [aI];omega
  have G:4<=(bs r).size:=ZJ;have u:=hide (fun W=>ql (bs (r.take 4)) W (by rw [aI,Yq];omega));rw [aO,O9 ZS,AC Z0] at u;rw [<-FB] at u;have j:=jG r
  by_cases C:r.length - 4<n4 r
  ·have z:=hide (qa F C)
   have q:((bs r).size:Int) - 4<n4 r:=ZJ
   have J:=hide (fun m=>show Rd3 ((w.drewN m).setCell ⟨g,1,none⟩ (.int .i64 4)) g r 4 from by
    have:=Blk.set_ (Blk.drewN h m) 1 (.int .i64 4);unfold Rd3
    simpa using this)
   have f1:w.frozen? ⟨g,1,none⟩=false:=Blk.frozen h 1;have HO:=hide (fun m=>ah (aL (az w (some g)) m) (p:=⟨g,1,none⟩) (.inl rfl) (.int .i64 4));generalize n4 r=U at z u j C q;generalize bs r=s at K v G q u o;have P:IntKind.i64.wrap ((s.size:Int) - 4)=(s.size:Int) - 4:=wrap_small _ Z0 Z0;clear h I F C j o;go_enter func257,ntmps257;go_upto_region 3 with fail;go_quiet ((go_at_call 293;exact (u.out _).mono fun _ _ h9=>⟨h9.1,_,h9.2⟩));go_wp2_with fail;go_ret;exact .inr ⟨4,r,z.out,Z2,rfl,J.out _,HO.out _⟩
  ·have z:=hide (tQ F C)
   have q:¬ ((bs r).size:Int) - 4<n4 r:=ZJ;have HT:=hide (fun (W:World) (hW:Rd3 W g r 0)=>jK hW I 4 Z0);have HT2:=hide (fun (W:World) (hW:Rd3 W g (r.drop 4) 0)=>jK hW (by rw [Yu];omega) (n4 r) j);rw [lL F] at HT;rw [lL (by rw [Yu];exact C),Yr] at HT2;have B:=u;rw [FB] at B;have R:=hide (fun m=>Blk.drewN h m);generalize n4 r=U at z u j C q HT2 B;have S:=hide j;have A:=HT;generalize bs r=s at K v G q u o;have P:IntKind.i64.wrap ((s.size:Int) - 4)=(s.size:Int) - 4:=wrap_small _ Z0 Z0;clear h I F C j o A;go_enter func257,ntmps257;go_upto_region 3 with fail;go_quiet ((go_at_call 293;exact (u.out _).mono fun _ _ h9=>⟨h9.1,_,h9.2⟩));go_wp2_with fail;refine (HT.out _ (R.out _)).mono ?_;rintro e w3 (⟨a,Q,D,rfl,N,T⟩ | ⟨x,Q,D,_⟩)
   ·injection D with e1 e2
    subst e1 e2;have A:=hide (HT2.out _ N);clear HT2 HT;go_wp2_with (go_at_call 293;refine (B.out _).mono ?_;rintro e X ⟨rfl,rfl⟩);refine A.out.mono ?_;rintro e w5 (⟨a,Q,D,rfl,O,L⟩ | ⟨x,Q,D,_⟩)
    ·injection D with e1 e2
     subst e1 e2;go_wp2_with fail;go_ret;exact .inl ⟨_,_,z.out,rfl,O,aj (aj (aL (az _ _) _) T) L⟩
    ·cases D
   ·cases D
theorem Km {s:List UInt8} (h:s.length<4294967290):dY s=bi s↔dP s=true:=by
 have j:dU (aY s)=false:=by
  unfold aY
  induction s with
  | nil=>rfl
  | cons c r ih =>
   rw [List.dropWhile_cons]
   split
   ·exact ih (by simp at h;omega)
   ·rename_i v
    simpa [dU] using v
 have o:dY s=dY (aY s):=by
  show bi (dW (aY s))=bi (dW (aY (aY s)));rw [iT j]
 constructor
 ·intro e
  rw [o,iK j] at e;have z:=Ye List.length e;simp only [bi,Ya,bM] at z
  have p:dW (aY s)=s:=by
   unfold bi at e;rw [show (dW (aY s)).length=s.length by omega] at e;exact List.append_cancel_left e
  have:=ui j;rwa [p] at this
 ·intro e
  obtain ⟨q,u⟩:=xO e;rw [o,iK q,u]
theorem J9 {r:List UInt8} {x:Nat} (h:dA r=.no x):ig r=.no x:=by
 unfold ig;rw [h]
theorem Kt:aY []=[]:=rfl
theorem Cu (h:Rd3 w g r 0) (hr:r.length<=1000000):Calls prog 256 #[.pointer (some ⟨g,0,none⟩)] w (JB (fun l=>.string (bs l)) (.string ⟨#[]⟩) (ig r) w g):=by
 have h0:w.cell? ⟨g,0,none⟩=some (.string (bs r)):=Blk.cell h 0;have h1:w.cell? ⟨g,1,none⟩=some (.int .i64 0):=Blk.cell h 1;have ab:=Blk.lt h;have HT:=hide (mW (Blk.alloc h (.cells #[.string (bs r),.int .i64 0] 269)) hr);have Q:=hide (dK (az w (some g)) (.cells #[.string (bs r),.int .i64 0] 269));have D:=hide (Blk.new w 269 #[.string (bs r),.int .i64 0]);have R:=hide (fun (W:World) (l:List UInt8) (hl:l.length<=1000000)=>qh (bs l) W (by rw [aI];exact hl));clear h;go_enter func256,ntmps256;go_wp2_with fail;refine HT.out.mono ?_;rintro e w3 (⟨s,O,K,rfl,j,L⟩ | ⟨x,O,K,V,rfl,j,L⟩)
 ·have B:=Ye List.length (iP K).1
  simp only [bi,Ya,bM] at B;have U:s.length<=1000000:=Z0;have S:=hide (fun W=>xL (bs s) W (by rw [aI];exact U));have u:=hide (fun W=>iO (bs s) W ZJ);have q:=hide (fun W=>R.out W s U);rw [aO] at S u q;rw [show q4 (bs s).size++s=bi s from rfl] at u;have o:=Km (s:=s) Z0;have F:=zg K;have c1:w3.cell? ⟨g,1,none⟩=some (.int .i64 0):=Blk.cell j 1;have C:=hide (aj Q.out L)
  cases N:dP s with
  | true =>
   have P:=hide (show ig r=.ok (aY s) O from by rw [F,Y6 N]);have A:((bs (dY s)).toList == (bs (bi s)).toList)=true:=by rw [o.2 N];exact beq_self_eq_true _
   generalize dY s=aa at S A;generalize bi s=bb at u A;have v:=hide j;clear K o F N L B j R HT D
   go_wp2_with (first
    | (go_at_call 125;refine (S.out _).mono ?_;rintro e w4 ⟨rfl,T⟩)
    | (go_at_call 126;refine (u.out _).mono ?_;rintro e w5 ⟨rfl,hb5⟩)
    | (go_at_call 124;refine (q.out _).mono ?_;rintro e w6 ⟨rfl,J⟩)
    | fail)
   go_ret;have G:Below w3.heap.size w3 w6:=Z4;exact .inl ⟨aY s,O,P.out,rfl,Rd3.below v.out G,aj C.out (ag G _)⟩
  | false =>
   have P:=hide (show ig r=.no 3 from by rw [F,Y5 (by rw [N];decide)])
   have A:((bs (dY s)).toList == (bs (bi s)).toList)=false:=eX (fun e=>by
    have:=o.1 (sN e);rw [N] at this
    cases this)
   generalize dY s=aa at S A;generalize bi s=bb at u A;have Z:w.heap.size≠g:=Z0;have I:=hide (D.out.grown L (fun e=>Z (Y9 e)));have v:=hide j;clear K o F N L B j R HT D
   go_upto_region 4 with (first
    | (go_at_call 125;refine (S.out _).mono ?_;rintro e w4 ⟨rfl,T⟩)
    | (go_at_call 126;refine (u.out _).mono ?_;rintro e w5 ⟨rfl,hb5⟩)
    | fail)
   have hb35:Below w3.heap.size w3 w5:=Z4;have X:=hide (aj C.out (ag hb35 _));have z:Rd3 w5 g O 0:=Rd3.below v.out hb35;have x5:=(I.out.below hb35 I.out.lt).cell 0;simp only [Jx,Q1] at x5;have y0:w5.cell? ⟨g,0,none⟩=some (.string (bs O)):=Blk.cell z 0;have y1:w5.cell? ⟨g,1,none⟩=some (.int .i64 0):=Blk.cell z 1;have z0:w5.frozen? ⟨g,0,none⟩=false:=Blk.frozen z 0;have z1:w5.frozen? ⟨g,1,none⟩=false:=Blk.frozen z 1
   have HF:=hide (show Rd3 ((w5.setCell ⟨g,0,none⟩ (.string (bs r))).setCell ⟨g,1,none⟩ (.int .i64 3)) g r 3 from by
    have:=Blk.set_ (Blk.set_ z 0 (.string (bs r))) 1 (.int .i64 3);unfold Rd3
    simpa using this)
   clear z hb35 T hb5 v I c1;go_wp2_with fail;go_ret;exact .inr ⟨3,r,P.out,Z2,rfl,HF.out,ah (ah X.out (p:=⟨g,0,none⟩) (.inl rfl) _) (p:=⟨g,1,none⟩) (.inl rfl) _⟩
 ·have P:=hide (J9 K)
  have c1:w3.cell? ⟨g,1,none⟩=some (.int .i64 (x:Nat)):=Blk.cell j 1;have ac:((x:Int) == 0)=false:=Z6;have q:=hide (fun W=>R.out W [] Z3);rw [aO] at q;rw [ Kt,show bs []=⟨#[]⟩ from rfl] at q;have C:=hide (aj Q.out L);have v:=hide j;have Y:=hide V;clear K L j R HT D V
  go_wp2_with (first
   | (go_at_call 124;refine (q.out _).mono ?_;rintro e w6 ⟨rfl,J⟩)
   | fail)
  go_ret;exact .inr ⟨x,O,P.out,Y.out,rfl,Rd3.below v.out J,aj C.out (ag J _)⟩
theorem Lr (h:Rd3 w g r 0):Calls prog 193 #[.pointer (some ⟨g,0,none⟩)] w (fun e w'=>e=.returned (.int .i64 (pE r))/\w'=w):=by
 have o:w.cell? ⟨g,0,none⟩=some (.string (bs r)):=Blk.cell h 0;have p:w.cell? ⟨g,1,none⟩=some (.int .i64 0):=Blk.cell h 1
 cases r with
 | nil =>
  have j:¬ (0:Int)<(bs ([]:List UInt8)).size:=X6;have E:=hide (show pE []=0 from rfl);go_enter func193,ntmps193;go_wp2_with fail;go_ret;exact ⟨Zi,rfl⟩
 | cons c r =>
  have j:(0:Int)<(bs (c :: r)).size:=X6;have E:=hide (show pE (c :: r)=3 from by simp [pE]);go_enter func193,ntmps193;go_wp2_with fail;go_ret;exact ⟨Zi,rfl⟩
end
end Go.Proofs.YtnhekaepgpbijaaGreatDoor
