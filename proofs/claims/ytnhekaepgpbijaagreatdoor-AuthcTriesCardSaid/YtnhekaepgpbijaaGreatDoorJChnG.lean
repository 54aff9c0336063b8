/- Several of my texts in one: RefA, WholeA, AsN, Chn. -/
import Derived.Test.YtnhekaepgpbijaaGreatDoorJAsG
import Derived.Test.YtnhekaepgpbijaaGreatDoorJSignPG
import Derived.Lib.QuietBelow
import Derived.Deep.RegionWith
import Derived.Test.YtnhekaepgpbijaaGreatDoorJShelf
import Derived.Deep.RegionHeld3
import Derived.Deep.DeepCutAuto
set_option linter.unusedVariables false
set_option linter.unusedSimpArgs false
set_option maxHeartbeats 40000000
set_option maxRecDepth 100000
namespace Go.Proofs.YtnhekaepgpbijaaGreatDoor
open Go.RowKit Go.ChangeShapes Go.WideShapes Go.Sort
def bs (l:List UInt8):ByteArray:=⟨l.toArray⟩
theorem aU (l:List UInt8):(bs l).data.toList=l:=rfl
theorem Tw (s:ByteArray):bs s.data.toList=s:=rfl
theorem kV {r:ByteArray} {l:List UInt8} (h:r.data.toList=l):r=bs l:=by rw [←h];rfl
@[go_sem] theorem aR (l:List UInt8):(bs l).size=l.length:=rfl
@[go_sem] theorem EL (l m:List UInt8):bs l++bs m=bs (l++m):=kV (by rw [data_append,aU,aU])
theorem tT {l m:List UInt8} (h:bs l=bs m):l=m:=by rw [←aU l,h,aU]
theorem aN (l:List UInt8):(bs l).toList=l:=ByteArray.toList_eq _
theorem gI {r:ByteArray} {l:List UInt8} (h:r.data.toList=l):Ending.returned (.string r)=.returned (.string (bs l)):=by rw [kV h]
theorem xD (n:Nat):UInt8.ofNat (n % 256)=UInt8.ofNat n:=by
 apply UInt8.toNat_inj.1;simp
def tx (o:Option Tm):ByteArray:=bs (txt o)
theorem Qt:tx none=⟨#[]⟩:=rfl
theorem Ni {o:Option Tm} (h:jN o):(txt o).length≤131072:=by
 cases o with
 | none=>exact Nat.zero_le _
 | some t=>exact (h t rfl).2
def Says (l:List UInt8) (w:World) (e:Ending) (w':World):Prop:=e=.returned (.string (bs l))∧Below w.heap.size w w'
theorem lw (n:Nat) (w:World) (h1:n<4294967296):Calls Tryz.prog 87 #[.int .i64 n] w (Says (q4 n) w):=by
 have h0:(0:Int)≤n:=by omega
 go_enter Tryz.func87,Tryz.ntmps87;go_wp2;go_ret;refine ⟨gI ?_,by exact aa⟩;rw [strOfNums_data,q4];have e1:((n:Int) / 16777216 % 256).toNat=n / 16777216 % 256:=by omega
 have e2:((n:Int) / 65536 % 256).toNat=n / 65536 % 256:=by omega
 have e3:((n:Int) / 256 % 256).toNat=n / 256 % 256:=by omega
 have e4:((n:Int) % 256).toNat=n % 256:=by omega
 simp only [List.map_cons,List.map_nil,e1,e2,e3,e4,xD]
theorem Nk (k:Nat) (w:World) (h1:k≤15):Calls Tryz.prog 86 #[.int .i64 k] w (Says [UInt8.ofNat (240+k)] w):=by
 have h0:(0:Int)≤k:=by omega
 have h2:(k:Int)≤15:=by omega
 go_enter Tryz.func86,Tryz.ntmps86;go_wp2;go_ret;refine ⟨gI ?_,by exact aa⟩;rw [strOfNums_data];have e1:(240+(k:Int)).toNat=240+k:=by omega
 simp only [List.map_cons,List.map_nil,e1]
def vY (l:List UInt8):List UInt8:=if l.length≤131072 then l else []
attribute [go_sem] bU
theorem xQ (l:List UInt8) (w:World) (h:l.length≤1000000000):Calls Tryz.prog 85 #[.string (bs l)] w (Says (vY l) w):=by
 unfold vY
 by_cases hl:l.length≤131072
 ·rw [if_pos hl]
  have hi:¬ (131072:Int)<l.length:=by omega
  go_enter Tryz.func85,Tryz.ntmps85;go_wp2;go_ret;exact ⟨rfl,by exact aa⟩
 ·rw [if_neg hl]
  have hi:(131072:Int)<l.length:=by omega
  go_enter Tryz.func85,Tryz.ntmps85;go_wp2;go_ret;exact ⟨rfl,by exact aa⟩
theorem Ah (n:Int) (w:World):Calls Tryz.prog 209 #[.int .i64 n] w fun e w'=>e=.returned (.bool (okN n))∧w=w':=by
 go_enter Tryz.func209,Tryz.ntmps209;go_wp2
 all_goals go_ret
 all_goals exact ⟨fQ (by unfold okN;(first | (simp_all;done) | (simp_all;omega) | (rw [Bool.eq_iff_iff];simp_all;done) | (rw [Bool.eq_iff_iff];simp_all;omega))),rfl⟩
def BZ (o:Option Tm):Nat:=match o with
 | some t=>t.k
 | none=>0
theorem M8 {o:Option Tm} (h:jN o):o=none∨∃t r,o=some t∧txt o=UInt8.ofNat (240+t.k) :: r∧1≤t.k∧t.k≤10:=by
 cases o with
 | none=>exact .inl rfl
 | some t =>
  obtain ⟨r,hr⟩:=uf t (h t rfl).1;exact .inr ⟨t,r,rfl,hr,tY (h t rfl).1⟩
theorem JJ {o:Option Tm} (h:jN o) (w:World):Calls Tryz.prog 196 #[.string (tx o)] w fun e w'=>e=.returned (.int .i64 (BZ o))∧w=w':=by
 rcases M8 h with rfl | ⟨t,r,rfl,ht,h1,h2⟩
 ·rw [Qt]
  go_enter Tryz.func196,Tryz.ntmps196;go_wp2;go_ret;exact ⟨rfl,rfl⟩
 ·have hl:=Ni h
  unfold tx;rw [ht] at hl ⊢;have hz:0<(bs (UInt8.ofNat (240+t.k) :: r)).size:=by rw [aR];simp
  have hz2:(bs (UInt8.ofNat (240+t.k) :: r)).size≤131072:=by rw [aR];exact hl
  have hb:(bs (UInt8.ofNat (240+t.k) :: r))[0].toNat=240+t.k:=by
   show (UInt8.ofNat (240+t.k)).toNat=_;rw [UInt8.toNat_ofNat'];omega
  generalize bs (UInt8.ofNat (240+t.k) :: r)=s at hz hz2 hb;have hb1:(241:Int)≤(s[0].toNat:Int):=by omega
  have hb2:(s[0].toNat:Int)≤250:=by omega
  have Hb:=hide hb;clear hl ht h hb;have hzi:(0:Int)<(s.size:Int):=by omega
  have hzn:((s.size:Int) == 0)=false:=beq_eq_false_iff_ne.2 (by omega);go_enter Tryz.func196,Tryz.ntmps196;go_wp2_with fail;go_ret;exact ⟨oP (by have:=Hb.out;show _=((t.k:Nat):Int);omega),rfl⟩
theorem Bj (s:ByteArray):[UInt8.ofNat (240+1)]++q4 s.size++s.data.toList=enc (.mk 1 0 0 s []):=by
 simp [enc,head,mid,encs]
theorem Kw (t:Tm):vY (enc t)=txt (lim t):=by
 unfold lim vY
 split <;> rfl
theorem rW {l m:List UInt8} (h:l=m):Ending.returned (.string (bs l))=.returned (.string (bs m)):=by rw [h]
theorem QB (t:Tm):(bs (enc t)).toList.isEmpty=false:=by
 rw [aN]
 cases e:enc t with
 | nil=>exact absurd e (yO t)
 | cons=>rfl
theorem rP (k:Nat) (n:Int) (hn:n=k) (w:World) (h1:k≤15):Calls Tryz.prog 86 #[.int .i64 n] w (Says [UInt8.ofNat (240+k)] w):=by
 subst hn;exact Nk k w h1
theorem FJ {t:Tm} {l:List UInt8} (h:l=enc t):vY l=txt (lim t):=by
 subst h;exact Kw t
theorem Iq (l:List UInt8) (w:World) (h:l.length≤1000000000):Calls Tryz.prog 41 #[.string (bs l)] w (Says (txt (aO (bs l))) w):=by
 by_cases hl:l.length≤131072
 ·have hi:¬ (131072:Int)<l.length:=by omega
  have HT:=hide (fun W=>rP 1 1 rfl W (by omega));have HU:=hide (fun W=>lw l.length W (by omega));have HF:=hide (fun W=>xQ ([UInt8.ofNat (240+1)]++q4 l.length++l) W (by simp [bU];omega));go_enter Tryz.func41,Tryz.ntmps41
  go_wp2_with (first
   | (go_at_call 86;refine (HT.out _).mono ?_;rintro e w1 ⟨rfl,hb1⟩)
   | (go_at_call 87;refine (HU.out _).mono ?_;rintro e w2 ⟨rfl,hb2⟩)
   | (go_at_call 85;refine (HF.out _).mono ?_;rintro e w3 ⟨rfl,hb3⟩))
  go_ret;exact ⟨rW (FJ (Bj (bs l))),by exact aa⟩
 ·have hi:(131072:Int)<l.length:=by omega
  have Ho:=hide (show txt (aO (bs l))=[] by
   unfold aO lim;rw [if_neg]
   ·rfl
   ·rw [←Bj,aR,aU]
    simp [bU]
    omega)
  rw [Ho.out];go_enter Tryz.func41,Tryz.ntmps41;go_wp2;go_ret;exact ⟨rfl,by exact aa⟩
theorem PK {n:Int} (h:okN n=true):∃a:Nat,n=a∧a<2147483648:=by
 have:=gM.1 h;exact ⟨n.toNat,by omega,by omega⟩
theorem Nh (who:Int) (w:World):Calls Tryz.prog 136 #[.int .i64 who] w (Says (txt (dW who)) w):=by
 have Hn:=hide (fun W=>Ah who W)
 cases h1:okN who with
 | false =>
  have Ho:=hide (show dW who=none by unfold dW;rw [h1];rfl);rw [Ho.out];rw [h1] at Hn;go_enter Tryz.func136,Tryz.ntmps136;go_wp2_with (go_at_call 209;(with_reducible refine (Hn.out _).mono ?_);rintro e w1 ⟨rfl,rfl⟩);go_ret;exact ⟨rfl,by exact aa⟩
 | true =>
  have Ho:=hide (show dW who=some (.mk 3 who.toNat 0 eB []) by unfold dW;rw [h1];rfl);obtain ⟨a,rfl,ha⟩:=PK h1;rw [h1] at Hn;have HT:=hide (fun W=>rP 3 3 rfl W (by omega));have HU:=hide (fun W=>lw a W (by omega));clear h1;go_enter Tryz.func136,Tryz.ntmps136
  go_wp2_with (first
   | (go_at_call 209;(with_reducible refine (Hn.out _).mono ?_);rintro e w1 ⟨rfl,rfl⟩)
   | (go_at_call 86;refine (HT.out _).mono ?_;rintro e w1 ⟨rfl,hb1⟩)
   | (go_at_call 87;(with_reducible refine (HU.out _).mono ?_);rintro e w2 ⟨rfl,hb2⟩))
  go_ret;rw [Ho.out];exact ⟨rW (by simp [txt,enc,head,mid,encs]),by exact aa⟩
theorem D5 {o:Option Tm} {k:Nat} (hk:k≠0):mH o k=((BZ o:Int) == k):=by
 cases o with
 | none=>simp [mH,BZ];omega
 | some t=>rfl
theorem Ms {o:Option Tm} (h:jN o) (w:World):Calls Tryz.prog 135 #[.string (bs (txt o))] w (Says (txt (gG o)) w):=by
 have HK:=hide (fun W=>JJ h W);have hko:=D5 (o:=o) (k:=3) (by omega)
 cases h1:mH o 3 with
 | false =>
  have Ho:=hide (show txt (gG o)=[] by rw [Gl h1];rfl);rw [Ho.out]
  have ht:((BZ o:Int) != 3)=true:=by
   rw [show mH o ((3:Nat):Int)=mH o 3 from rfl,h1] at hko;simp only [bne,Bool.not_eq_true'];exact hko.symm
  clear h1 hko h;go_enter Tryz.func135,Tryz.ntmps135;go_wp2_with (go_at_call 196;refine (HK.out _).mono ?_;rintro e w1 ⟨rfl,rfl⟩);go_ret;exact ⟨rfl,by exact aa⟩
 | true =>
  obtain ⟨t,rfl,hk⟩:=gZ (k:=3) h1
  have Ho:=hide (show txt (gG (some t))=[UInt8.ofNat (240+4)]++enc t by
   show txt (if t.k=3 then _ else none)=_;rw [if_pos hk]
   simp [txt,enc,head,mid,encs])
  rw [Ho.out]
  have ht:((BZ (some t):Int) != 3)=false:=by
   show ((t.k:Int) != 3)=false;rw [hk];rfl
  have HT:=hide (fun W=>rP 4 4 rfl W (by omega));have hlen:=(h t rfl).2;change Calls Tryz.prog 135 #[.string (bs (enc t))] w _;clear h1 hko h hk;go_enter Tryz.func135,Tryz.ntmps135
  go_wp2_with (first
   | (go_at_call 196;refine (HK.out _).mono ?_;rintro e w1 ⟨rfl,rfl⟩)
   | (go_at_call 86;refine (HT.out _).mono ?_;rintro e w1 ⟨rfl,hb1⟩))
  go_ret;exact ⟨rW rfl,by exact aa⟩
def Txs (w:World) (v:Value) (ls:List (List UInt8)):Prop:=Strs 0 w v (ls.map bs)
theorem Txs.below {w w':World} {v:Value} {ls:List (List UInt8)} (h:Txs w v ls) (hb:Below w.heap.size w w'):Txs w' v ls:=Strs.below h hb
theorem Gq (w:World) (c:Nat):Txs w (.slice none 0 c) []:=⟨none,c,rfl,Sl.nil_⟩
theorem Txs.open_ {w:World} {v:Value} {ls:List (List UInt8)} (h:Txs w v ls):∃A c,v=.slice A ls.length c∧∀k,(hk:k<ls.length)→∃ad,A=some ad∧ad.block<w.heap.size∧w.cell? (ad.add k)=some (.string (bs ls[k])):=by
 obtain ⟨A,c,rfl,hs⟩:=h;refine ⟨A,c,by simp,fun k hk=>?_⟩;obtain ⟨ad,h1,h2,h3⟩:=hs.str (k:=k) (by simpa using hk);exact ⟨ad,h1,h2,by simpa using h3⟩
theorem JW {o:Option Tm} (ho:jN o) (w:World):Calls Tryz.prog 40 #[.string (bs (txt o))] w (Says (txt (kZ o)) w):=by
 cases o with
 | none =>
  change Calls Tryz.prog 40 #[.string ⟨#[]⟩] w (Says [] w);go_enter Tryz.func40,Tryz.ntmps40;go_wp2;go_ret;exact ⟨rfl,by exact aa⟩
 | some t =>
  have hl1:=(ho t rfl).2;have hE:=QB t;have HT:=hide (fun W=>rP 7 7 rfl W (by omega));have HF:=hide (fun W=>xQ ([UInt8.ofNat (240+7)]++enc t) W (by simp;omega));have Hl:=hide (show vY ([UInt8.ofNat (240+7)]++enc t)=txt (lim (.mk 7 0 0 eB [t])) from FJ (by simp [enc,encs,head,mid]));change Calls Tryz.prog 40 #[.string (bs (enc t))] w (Says (txt (lim (.mk 7 0 0 eB [t]))) w);generalize enc t=et at hl1 HF Hl hE;go_enter Tryz.func40,Tryz.ntmps40
  go_wp2_with (first
   | (go_at_call 86;refine (HT.out _).mono ?_;rintro e w1 ⟨rfl,hb1⟩)
   | (go_at_call 85;refine (HF.out _).mono ?_;rintro e w3 ⟨rfl,hb3⟩))
  go_ret;exact ⟨rW Hl.out,by exact aa⟩
@[go_sem] theorem TL (c:Nat):strOfNums [(c:Int)]=bs [UInt8.ofNat c]:=kV (by rw [strOfNums_data];simp)
end Go.Proofs.YtnhekaepgpbijaaGreatDoor

namespace Go.Proofs.YtnhekaepgpbijaaGreatDoor
open Go.RowKit Go.ChangeShapes Go.WideShapes
section
variable {w : World}
theorem oZ (n:Nat) (w:World) (h1:n<4294967296):Calls Tryz.prog 200 #[.int .u32 n] w (Says (q4 n) w):=by
 have h0:(0:Int)≤n:=by omega
 go_enter Tryz.func200,Tryz.ntmps200;go_wp2;go_ret;refine ⟨gI ?_,by exact aa⟩;rw [strOfNums_data,q4];have e1:((n:Int) / 16777216).toNat=n / 16777216:=by omega
 have e2:((n:Int) / 65536 % 256).toNat=n / 65536 % 256:=by omega
 have e3:((n:Int) / 256 % 256).toNat=n / 256 % 256:=by omega
 have e4:((n:Int) % 256).toNat=n % 256:=by omega
 simp only [List.map_cons,List.map_nil,e1,e2,e3,e4,xD]
theorem eH (n:Nat) (w:World) (h1:n<4294967296):Calls Tryz.prog 342 #[.int .i64 n] w (Says (q4 n) w):=by
 have h0:(0:Int)≤n:=by omega
 have h2:(n:Int)<4294967296:=by omega
 go_enter Tryz.func342,Tryz.ntmps342;go_wp2_with (go_at_call 200;refine (oZ n _ h1).mono ?_;rintro e w1 ⟨rfl,hb1⟩);go_ret;exact ⟨rfl,hb1⟩
theorem fF (l:List UInt8) (w:World) (h1:l.length<4294967296):Calls Tryz.prog 341 #[.string (bs l)] w (Says (q4 l.length++l) w):=by
 go_enter Tryz.func341,Tryz.ntmps341;go_wp2_with (go_at_call 342;refine (eH l.length _ h1).mono ?_;rintro e w1 ⟨rfl,hb1⟩);go_ret;exact ⟨rfl,hb1⟩
end
section
variable {w : World}
theorem Ro (a b:Nat) (l:List UInt8) (A:Option Addr) (n c:Nat) (w:World) (ha:a<4294967296) (hb:b<4294967296) (hn:n<4294967296) (hl:l.length<4294967296) :
  Calls Tryz.prog 321 #[.agg #[.int .i64 1,.int .i64 a,.int .i64 b,.string (bs l),.slice A n c]] w (Says (head 1 a b l n) w):=by
 go_enter Tryz.func321,Tryz.ntmps321
 go_wp2_with (first
  | (go_at_call 341;refine (fF l _ hl).mono ?_;rintro e w1 ⟨rfl,hb1⟩)
  | (go_at_call 342;refine (eH _ _ (by omega)).mono ?_;rintro e w1 ⟨rfl,hb1⟩))
 go_ret;refine ⟨gI ?_,by exact aa⟩;simp [head,mid,strOfNums_data,bs]
theorem RN (a b:Nat) (l:List UInt8) (A:Option Addr) (n c:Nat) (w:World) (ha:a<4294967296) (hb:b<4294967296) (hn:n<4294967296) (hl:l.length<4294967296) :
  Calls Tryz.prog 321 #[.agg #[.int .i64 3,.int .i64 a,.int .i64 b,.string (bs l),.slice A n c]] w (Says (head 3 a b l n) w):=by
 go_enter Tryz.func321,Tryz.ntmps321
 go_wp2_with (first
  | (go_at_call 341;refine (fF l _ hl).mono ?_;rintro e w1 ⟨rfl,hb1⟩)
  | (go_at_call 342;refine (eH _ _ (by omega)).mono ?_;rintro e w1 ⟨rfl,hb1⟩))
 go_ret;refine ⟨gI ?_,by exact aa⟩;simp [head,mid,strOfNums_data,bs]
theorem Rp (a b:Nat) (l:List UInt8) (A:Option Addr) (n c:Nat) (w:World) (ha:a<4294967296) (hb:b<4294967296) (hn:n<4294967296) (hl:l.length<4294967296) :
  Calls Tryz.prog 321 #[.agg #[.int .i64 4,.int .i64 a,.int .i64 b,.string (bs l),.slice A n c]] w (Says (head 4 a b l n) w):=by
 go_enter Tryz.func321,Tryz.ntmps321
 go_wp2_with (first
  | (go_at_call 341;refine (fF l _ hl).mono ?_;rintro e w1 ⟨rfl,hb1⟩)
  | (go_at_call 342;refine (eH _ _ (by omega)).mono ?_;rintro e w1 ⟨rfl,hb1⟩))
 go_ret;refine ⟨gI ?_,by exact aa⟩;simp [head,mid,strOfNums_data,bs]
theorem Ry (a b:Nat) (l:List UInt8) (A:Option Addr) (n c:Nat) (w:World) (ha:a<4294967296) (hb:b<4294967296) (hn:n<4294967296) (hl:l.length<4294967296) :
  Calls Tryz.prog 321 #[.agg #[.int .i64 6,.int .i64 a,.int .i64 b,.string (bs l),.slice A n c]] w (Says (head 6 a b l n) w):=by
 go_enter Tryz.func321,Tryz.ntmps321
 go_wp2_with (first
  | (go_at_call 341;refine (fF l _ hl).mono ?_;rintro e w1 ⟨rfl,hb1⟩)
  | (go_at_call 342;refine (eH _ _ (by omega)).mono ?_;rintro e w1 ⟨rfl,hb1⟩))
 go_ret;refine ⟨gI ?_,by exact aa⟩;simp [head,mid,strOfNums_data,bs]
theorem RF (a b:Nat) (l:List UInt8) (A:Option Addr) (n c:Nat) (w:World) (ha:a<4294967296) (hb:b<4294967296) (hn:n<4294967296) (hl:l.length<4294967296) :
  Calls Tryz.prog 321 #[.agg #[.int .i64 7,.int .i64 a,.int .i64 b,.string (bs l),.slice A n c]] w (Says (head 7 a b l n) w):=by
 go_enter Tryz.func321,Tryz.ntmps321
 go_wp2_with (first
  | (go_at_call 341;refine (fF l _ hl).mono ?_;rintro e w1 ⟨rfl,hb1⟩)
  | (go_at_call 342;refine (eH _ _ (by omega)).mono ?_;rintro e w1 ⟨rfl,hb1⟩))
 go_ret;refine ⟨gI ?_,by exact aa⟩;simp [head,mid,strOfNums_data,bs]
theorem RU (a b:Nat) (l:List UInt8) (A:Option Addr) (n c:Nat) (w:World) (ha:a<4294967296) (hb:b<4294967296) (hn:n<4294967296) (hl:l.length<4294967296) :
  Calls Tryz.prog 321 #[.agg #[.int .i64 9,.int .i64 a,.int .i64 b,.string (bs l),.slice A n c]] w (Says (head 9 a b l n) w):=by
 go_enter Tryz.func321,Tryz.ntmps321
 go_wp2_with (first
  | (go_at_call 341;refine (fF l _ hl).mono ?_;rintro e w1 ⟨rfl,hb1⟩)
  | (go_at_call 342;refine (eH _ _ (by omega)).mono ?_;rintro e w1 ⟨rfl,hb1⟩))
 go_ret;refine ⟨gI ?_,by exact aa⟩;simp [head,mid,strOfNums_data,bs]
theorem Qn (a b:Nat) (l:List UInt8) (A:Option Addr) (n c:Nat) (w:World) (ha:a<4294967296) (hb:b<4294967296) (hn:n<4294967296) (hl:l.length<4294967296) :
  Calls Tryz.prog 321 #[.agg #[.int .i64 10,.int .i64 a,.int .i64 b,.string (bs l),.slice A n c]] w (Says (head 10 a b l n) w):=by
 go_enter Tryz.func321,Tryz.ntmps321
 go_wp2_with (first
  | (go_at_call 341;refine (fF l _ hl).mono ?_;rintro e w1 ⟨rfl,hb1⟩)
  | (go_at_call 342;refine (eH _ _ (by omega)).mono ?_;rintro e w1 ⟨rfl,hb1⟩))
 go_ret;refine ⟨gI ?_,by exact aa⟩;simp [head,mid,strOfNums_data,bs]
theorem Rt (a b:Nat) (l:List UInt8) (A:Option Addr) (n c:Nat) (w:World) (ha:a<4294967296) (hb:b<256) (hn:n<4294967296) (hl:l.length<4294967296) :
  Calls Tryz.prog 321 #[.agg #[.int .i64 8,.int .i64 a,.int .i64 b,.string (bs l),.slice A n c]] w (Says (head 8 a b l n) w):=by
 have h8:(b:Int) % 256=b:=by omega
 go_enter Tryz.func321,Tryz.ntmps321
 go_wp2_with (first
  | (go_at_call 341;refine (fF l _ hl).mono ?_;rintro e w1 ⟨rfl,hb1⟩)
  | (go_at_call 342;refine (eH _ _ (by omega)).mono ?_;rintro e w1 ⟨rfl,hb1⟩))
 go_ret;refine ⟨gI ?_,by exact aa⟩;simp [head,mid,strOfNums_data,bs]
end
end Go.Proofs.YtnhekaepgpbijaaGreatDoor

namespace Go.Proofs.YtnhekaepgpbijaaGreatDoor
open Go.RowKit Go.ChangeShapes Go.WideShapes Go.Sort
section
variable {w : World}
theorem Rn (a b:Nat) (l:List UInt8) (A:Option Addr) (n c:Nat) (w:World) (ha:a<4294967296) (hb:b<4294967296) (hn:n<4294967296) (hl:l.length<4294967296) :
  Calls Tryz.prog 321 #[.agg #[.int .i64 2,.int .i64 a,.int .i64 b,.string (bs l),.slice A n c]] w (Says (head 2 a b l n) w):=by
 go_enter Tryz.func321,Tryz.ntmps321;go_wp2_with fail
 obtain ⟨W,hW⟩:∃W,W=(w.alloc (.cells #[.int .i64 2,.int .i64 a,.int .i64 b,.string (bs l),.slice A n c] 126)).alloc (.cells #[.int .u8 242] 5):=⟨_,rfl⟩
 rw [←hW];have hbW:Below w.heap.size w W:=by rw [hW];exact ((Below.refl _ _).alloc (Nat.le_refl _) _).alloc (by simp) _
 have hk:Blk W w.heap.size 126 #[.int .i64 2,.int .i64 a,.int .i64 b,.string (bs l),.slice A n c]:=by rw [hW];exact (Blk.new w _ _).alloc _
 have C1:=fun dd oo=>cell_regrown (v:=.int .i64 a) (hk.cell 1) dd oo
 have C2:=fun dd oo=>cell_regrown (v:=.int .i64 b) (hk.cell 2) dd oo
 have G1:=hide (fun dd oo=>Calls.regrown_of (v:=.string (bs (q4 a))) (eH a (grow (redrawn W dd) oo) ha));have G2:=hide (fun dd oo=>Calls.regrown_of (v:=.string (bs (q4 b))) (eH b (grow (redrawn W dd) oo) hb));clear hW hk;refine wp_region_quiet_below (by kernel_rfl) (by kernel_rfl) ?_
 repeat (quiet_step ((first | (go_at_call 342;with_reducible exact G1.out _ _) | (go_at_call 342;with_reducible exact G2.out _ _))))
 refine wpQuiet_nil ?_;intro wq hwq
 have hbq:Below W.heap.size W wq:=by
  obtain ⟨p,rfl⟩:=hwq;exact below_regrown W p.d p.os
 clear hwq;go_wp2_with fail;go_ret;refine ⟨gI ?_,by exact aa⟩;simp [head,mid,strOfNums_data,bs]
theorem Q8 (a b:Nat) (l:List UInt8) (A:Option Addr) (n c:Nat) (w:World) (ha:a<4294967296) (hb:b<4294967296) (hn:n<4294967296) (hl:l.length<4294967296) :
  Calls Tryz.prog 321 #[.agg #[.int .i64 5,.int .i64 a,.int .i64 b,.string (bs l),.slice A n c]] w (Says (head 5 a b l n) w):=by
 have z1:¬ (9223372036854775807<1+(4+l.length)):=by omega
 have z2:¬ (9223372036854775807<1+(4+l.length)+4):=by omega
 go_enter Tryz.func321,Tryz.ntmps321;go_wp2_with fail
 obtain ⟨W,hW⟩:∃W,W=(w.alloc (.cells #[.int .i64 5,.int .i64 a,.int .i64 b,.string (bs l),.slice A n c] 126)).alloc (.cells #[.int .u8 245] 5):=⟨_,rfl⟩
 rw [←hW];have hbW:Below w.heap.size w W:=by rw [hW];exact ((Below.refl _ _).alloc (Nat.le_refl _) _).alloc (by simp) _
 have hk:Blk W w.heap.size 126 #[.int .i64 5,.int .i64 a,.int .i64 b,.string (bs l),.slice A n c]:=by rw [hW];exact (Blk.new w _ _).alloc _
 have C1:=fun dd oo=>cell_regrown (v:=.string (bs l)) (hk.cell 3) dd oo
 have C2:=fun dd oo=>cell_regrown (v:=.slice A n c) (hk.cell 4) dd oo
 have G1:=hide (fun dd oo=>Calls.regrown_of (v:=.string (bs (q4 l.length++l))) (fF l (grow (redrawn W dd) oo) hl));have G2:=hide (fun dd oo=>Calls.regrown_of (v:=.string (bs (q4 n))) (eH n (grow (redrawn W dd) oo) hn));clear hW hk;refine wp_region_quiet_below (by kernel_rfl) (by kernel_rfl) ?_
 repeat (quiet_step ((first | (go_at_call 341;with_reducible exact G1.out _ _) | (go_at_call 342;with_reducible exact G2.out _ _))))
 refine wpQuiet_nil ?_;intro wq hwq
 have hbq:Below W.heap.size W wq:=by
  obtain ⟨p,rfl⟩:=hwq;exact below_regrown W p.d p.os
 clear hwq;go_wp2_with fail;go_ret;refine ⟨gI ?_,by exact aa⟩;simp [head,mid,strOfNums_data,bs]
theorem Ju {t:Tm} (ht:good t) (A:Option Addr) (c:Nat) (w:World) :
  Calls Tryz.prog 321 #[.agg #[.int .i64 t.k,.int .i64 t.a,.int .i64 t.b,.string t.s,.slice A t.l.length c]] w (Says (head t.k t.a t.b t.s.data.toList t.l.length) w):=by
 obtain ⟨k,a,b,s,l⟩:=t;simp only [good] at ht;have h1:=ht.1;have hk:=zg h1;simp only [Tm.k,Tm.a,Tm.b,Tm.s,Tm.l];have hz:=aD s;have hs:s=bs s.data.toList:=rfl;generalize s.data.toList=m at hz hs ⊢;subst hs;generalize l.length=n at h1 ⊢;clear ht;obtain rfl | rfl | rfl | rfl | rfl | rfl | rfl | rfl | rfl | rfl:k=1∨k=2∨k=3∨k=4∨k=5∨k=6∨k=7∨k=8∨k=9∨k=10:=by omega
 all_goals simp only [hd] at h1
 ·exact Ro a b m A n c w (by omega) (by omega) (by omega) (by omega)
 ·exact Rn a b m A n c w (by omega) (by omega) (by omega) (by rw [hz,h1.2.2.2];exact (by decide:(0:Nat)<4294967296))
 ·exact RN a b m A n c w (by omega) (by omega) (by omega) (by rw [hz,h1.2.2.2];exact (by decide:(0:Nat)<4294967296))
 ·exact Rp a b m A n c w (by omega) (by omega) (by omega) (by rw [hz,h1.2.2.2];exact (by decide:(0:Nat)<4294967296))
 ·exact Q8 a b m A n c w (by omega) (by omega) (by omega) (by omega)
 ·exact Ry a b m A n c w (by omega) (by omega) (by omega) (by omega)
 ·exact RF a b m A n c w (by omega) (by omega) (by omega) (by rw [hz,h1.2.2.2];exact (by decide:(0:Nat)<4294967296))
 ·exact Rt a b m A n c w (by omega) (by omega) (by omega) (by rw [hz,h1.2.2.2];exact (by decide:(0:Nat)<4294967296))
 ·exact RU a b m A n c w (by omega) (by omega) (by omega) (by rw [hz,h1.2.2.2];exact (by decide:(0:Nat)<4294967296))
 ·exact Qn a b m A n c w (by omega) (by omega) (by omega) (by rw [hz,h1.2.2.2];exact (by decide:(0:Nat)<4294967296))
end
end Go.Proofs.YtnhekaepgpbijaaGreatDoor

namespace Go.Proofs.YtnhekaepgpbijaaGreatDoor
open Go.RowKit Go.ChangeShapes Go.WideShapes
theorem RX (s:ByteArray) (a b:Nat):s.extract a b=bs ((s.data.toList.drop a).take (b - a)):=kV (by rw [Lib.extract_data])
end Go.Proofs.YtnhekaepgpbijaaGreatDoor

namespace Go.Proofs.YtnhekaepgpbijaaGreatDoor
open Go.RowKit Go.ChangeShapes Go.WideShapes Go.Sort
theorem oD (ad:Addr):ad.add 0=ad:=by simp [Addr.add]
theorem wD (ad:Addr) (m:Nat):ad.add (m+1)=⟨ad.block,ad.off+(m+1),none⟩:=by simp [Addr.add]
end Go.Proofs.YtnhekaepgpbijaaGreatDoor
namespace Go.Proofs.YtnhekaepgpbijaaGreatDoor
open Go.RowKit Go.ChangeShapes Go.WideShapes
section
variable {w : World}
theorem nG (l:List UInt8) (w:World):Calls Tryz.prog 236 #[.string (bs l)] w (Says (bE l) w):=by
 have HT:=hide (fun W=>Tryz.strings_TrimLeft_one (bs l) 0 (by decide) W);go_enter Tryz.func236,Tryz.ntmps236;go_wp2_with (go_at_call 277;refine (HT.out _).mono ?_;rintro e w1 ⟨rfl,rfl⟩);go_ret;exact ⟨rfl,by exact aa⟩
theorem pM (l:List UInt8) (w:World) (h1:l.length<4294967296):Calls Tryz.prog 203 #[.string (bs l)] w (Says (q4 l.length++l) w):=by
 have h2:(l.length:Int)<4294967296:=by omega
 go_enter Tryz.func203,Tryz.ntmps203;go_wp2_with (go_at_call 200;refine (oZ l.length _ h1).mono ?_;rintro e w1 ⟨rfl,hb1⟩);go_ret;exact ⟨rfl,hb1⟩
theorem qd (s:ByteArray) (w:World) (h1:s.size<4294967296):Calls Tryz.prog 203 #[.string s] w (Says (q4 s.size++s.data.toList) w):=pM s.data.toList w h1
theorem AC (c:UInt8) (r:List UInt8):(bs (c :: r)).toList.isEmpty=false:=by
 rw [aN];rfl
theorem EM (s0:ByteArray) (w:World) (h1:s0.size≤1000000):Calls Tryz.prog 201 #[.string s0] w (Says (fO s0.data.toList) w):=by
 have HP:=hide (fun W=>nG s0.data.toList W);rw [show bs s0.data.toList=s0 from rfl] at HP;have hl:=jw s0.data.toList;have hsz:=aD s0;unfold fO;generalize bE s0.data.toList=m at HP hl ⊢
 cases m with
 | nil =>
  have HT:=hide (fun W=>qd ⟨#[]⟩ W (by decide));have HP:=hide (fun W=>(show Calls Tryz.prog 236 #[.string s0] W (fun e w'=>e=.returned (.string ⟨#[]⟩)∧Below W.heap.size W w') from HP.out W));go_enter Tryz.func201,Tryz.ntmps201
  go_wp2_with (first
   | (go_at_call 236;refine (HP.out _).mono ?_;rintro e w1 ⟨rfl,hb1⟩)
   | (go_at_call 203;refine (HT.out _).mono ?_;rintro e w2 ⟨rfl,hb2⟩))
  go_ret;exact ⟨rfl,by exact aa⟩
 | cons c r =>
  have HE:=hide (AC c r);have HP:=hide (fun W=>(show Calls Tryz.prog 236 #[.string s0] W (fun e w'=>e=.returned (.string (bs (c :: r)))∧Below W.heap.size W w') from HP.out W));have hz:0<(bs (c :: r)).size:=by rw [aR];simp
  have hz2:(bs (c :: r)).size≤1000000:=by rw [aR];omega
  have hb:(bs (c :: r))[0].toNat=c.toNat:=rfl;have hd:(bs (c :: r)).data.toList=c :: r:=rfl;have HT:=hide (fun W=>qd (bs (c :: r)) W (by rw [aR] at hz2 ⊢;omega));have HT0:=hide (fun W=>qd (⟨#[0]⟩++bs (c :: r)) W (by rw [ByteArray.size_append];rw [aR] at hz2 ⊢;have:(⟨#[0]⟩:ByteArray).size=1:=rfl;omega));have HS:=hide (show ((⟨#[0]⟩:ByteArray)++bs (c :: r)).data.toList=0 :: c :: r by rw [data_append];rfl);generalize bs (c :: r)=s at HP HE hz hz2 hb hd HT HT0 HS;have hc:=c.toNat_lt;have he:=HE.out
  by_cases h128:128≤c.toNat
  ·rw [show dP (c :: r)=0 :: c :: r from if_pos h128]
   have hb1:(128:Int)≤(s[0].toNat:Int):=by omega
   have hA:(Says (q4 ((⟨#[0]⟩:ByteArray)++s).size++((⟨#[0]⟩:ByteArray)++s).data.toList))=Says (q4 (0 :: c :: r).length++0 :: c :: r):=by
    rw [←HS.out];rfl
   rw [←hA];generalize (q4 ((⟨#[0]⟩:ByteArray)++s).size++((⟨#[0]⟩:ByteArray)++s).data.toList)=z at HT0 ⊢;clear hb hd hA hl HS;go_enter Tryz.func201,Tryz.ntmps201
   go_wp2_with (first
    | (go_at_call 236;refine (HP.out _).mono ?_;rintro e w1 ⟨rfl,hb1⟩)
    | (go_at_call 203;refine (HT0.out _).mono ?_;rintro e w2 ⟨rfl,hb2⟩))
   go_ret;exact ⟨rfl,by exact aa⟩
  ·rw [show dP (c :: r)=c :: r from if_neg h128]
   have hb1:¬ (128:Int)≤(s[0].toNat:Int):=by omega
   have hA:(Says (q4 s.size++s.data.toList))=Says (q4 (c :: r).length++c :: r):=by
    rw [←hd];rfl
   rw [←hA];generalize (q4 s.size++s.data.toList)=z at HT ⊢;clear hb hd hA hl HS;go_enter Tryz.func201,Tryz.ntmps201
   go_wp2_with (first
    | (go_at_call 236;refine (HP.out _).mono ?_;rintro e w1 ⟨rfl,hb1⟩)
    | (go_at_call 203;refine (HT.out _).mono ?_;rintro e w2 ⟨rfl,hb2⟩))
   go_ret;exact ⟨rfl,by exact aa⟩
theorem IW {s:ByteArray} (hz:0<s.size) (h:s[0].toNat=0):bE (s.extract 1 s.size).data.toList=bE s.data.toList:=by
 have h0:s.data.toList=s[0] :: s.data.toList.drop 1:=by
  exact kg (s:=s.data.toList) (p:=0) hz
 have hs:s[0]=0:=UInt8.toNat_inj.1 h;rw [Lib.extract_data,List.take_of_length_le (by rw [List.length_drop];exact Nat.le_refl _)]
 conv=>rhs;rw [h0,hs]
 rfl
theorem JV {s:ByteArray} (hz:0<s.size) (h:s[0].toNat≠0):bE s.data.toList=s.data.toList:=by
 refine gY ?_
 have h0:s.data.toList=s[0] :: s.data.toList.drop 1:=by
  exact kg (s:=s.data.toList) (p:=0) hz
 rw [h0];show (s[0] == 0)=false;rw [beq_eq_false_iff_ne];intro e;rw [e] at h;exact h rfl
theorem K8 (s:ByteArray) (hz:0<s.size):(s.extract 1 s.size).size=s.size - 1:=by
 show (s.extract 1 s.size).data.toList.length=_;rw [Lib.extract_data,List.take_of_length_le (by rw [List.length_drop];exact Nat.le_refl _),List.length_drop];rfl
def QU (v:Value):Nat:=match v with
 | .string s=>s.size
 | _=>0
theorem uk (s0:ByteArray) (w:World) (h1:s0.size≤1000000):Calls Tryz.prog 124 #[.string s0] w (Says (bE s0.data.toList) w):=by
 go_enter Tryz.func124,Tryz.ntmps124;go_wp2_with fail
 go_loopw [0] (fun v wr=>wr=w∧∃s:ByteArray,v=.string s∧Hid (bE s.data.toList=bE s0.data.toList)∧s.size≤1000000) (fun v _=>QU v)
 case atStart=>exact ⟨rfl,s0,rfl,hide rfl,h1⟩
 case round =>
  obtain ⟨rfl,s,rfl,hp,hsz⟩:=hrel
  by_cases hz:0<s.size
  ·have hzi:(0:Int)<s.size:=by omega
   have hlt:=s[0].toNat_lt
   by_cases h0:s[0].toNat=0
   ·have hp2:=hide ((IW hz h0).trans hp.out)
    have hz2:=K8 s hz;have h0i:(s[0].toNat:Int)=0:=by omega
    clear hp;go_wp2;refine ⟨⟨trivial,s.extract 1 s.size,by go_num,hp2,by omega⟩,by simp [QU];omega⟩
   ·have hp2:=hide ((JV hz h0).symm.trans hp.out)
    have h0i:¬ (s[0].toNat:Int)=0:=by omega
    clear hp;go_wp2;go_ret;exact ⟨by rw [←hp2.out];rfl,by exact aa⟩
  ·have hzi:¬ (0:Int)<s.size:=by omega
   have hs:s=⟨#[]⟩:=by
    have:s.data.toList=[]:=List.eq_nil_of_length_eq_zero (by rw [aD];omega);exact toList_inj this
   subst hs;go_wp2;go_ret;exact ⟨by rw [←hp.out];rfl,by exact aa⟩
end
section
variable {w : World}
theorem iw (s:ByteArray) (w:World) (h1:s.size<4294967296):Calls Tryz.prog 126 #[.string s] w (Says (q4 s.size++s.data.toList) w):=by
 have H:=hide (fun W=>lw s.size W h1);have hz:s.size≤4294967296:=by omega
 go_enter Tryz.func126,Tryz.ntmps126;go_wp2_with (go_at_call 87;refine (H.out _).mono ?_;rintro e w1 ⟨rfl,hb1⟩);go_ret;exact ⟨gI (by rw [data_append,aU]),hb1⟩
theorem mq (n:Nat) (w:World) (h1:n<256):Calls Tryz.prog 73 #[.int .u8 n] w (Says [UInt8.ofNat n] w):=by
 go_enter Tryz.func73,Tryz.ntmps73;go_wp2_with fail;go_ret;exact ⟨rfl,by exact aa⟩
theorem EU (s0:ByteArray) (w:World) (h1:s0.size≤1000000):Calls Tryz.prog 125 #[.string s0] w (Says (fO s0.data.toList) w):=by
 have HP:=hide (fun W=>uk s0 W h1);have hl:=jw s0.data.toList;have hsz:=aD s0;unfold fO;generalize bE s0.data.toList=m at HP hl ⊢
 cases m with
 | nil =>
  have HT:=hide (fun W=>iw ⟨#[]⟩ W (by decide));have HP:=hide (fun W=>(show Calls Tryz.prog 124 #[.string s0] W (fun e w'=>e=.returned (.string ⟨#[]⟩)∧Below W.heap.size W w') from HP.out W));go_enter Tryz.func125,Tryz.ntmps125
  go_wp2_with (first
   | (go_at_call 124;refine (HP.out _).mono ?_;rintro e w1 ⟨rfl,hb1⟩)
   | (go_at_call 126;refine (HT.out _).mono ?_;rintro e w2 ⟨rfl,hb2⟩))
  go_ret;exact ⟨rfl,by exact aa⟩
 | cons c r =>
  have HP:=hide (fun W=>(show Calls Tryz.prog 124 #[.string s0] W (fun e w'=>e=.returned (.string (bs (c :: r)))∧Below W.heap.size W w') from HP.out W));have hz:0<(bs (c :: r)).size:=by rw [aR];simp
  have hzi:(0:Int)<(bs (c :: r)).size:=by omega
  have hz2:(bs (c :: r)).size≤1000000:=by rw [aR];omega
  have hb:(bs (c :: r))[0].toNat=c.toNat:=rfl;have hd:(bs (c :: r)).data.toList=c :: r:=rfl;have HB:=hide (fun W=>mq 0 W (by decide));have HT:=hide (fun W=>iw (bs (c :: r)) W (by rw [aR] at hz2 ⊢;omega));have HT0:=hide (fun W=>iw (bs [UInt8.ofNat 0]++bs (c :: r)) W (by rw [ByteArray.size_append,aR];rw [aR] at hz2 ⊢;simp at hz2 ⊢;omega));have HS:=hide (show (bs [UInt8.ofNat 0]++bs (c :: r)).data.toList=0 :: c :: r by rw [data_append];rfl);generalize bs (c :: r)=s at HP hz hzi hz2 hb hd HT HT0 HS;have hc:=c.toNat_lt
  by_cases h128:128≤c.toNat
  ·rw [show dP (c :: r)=0 :: c :: r from if_pos h128]
   have hb1:(127:Int)<(s[0].toNat:Int):=by omega
   have hA:(Says (q4 (bs [UInt8.ofNat 0]++s).size++(bs [UInt8.ofNat 0]++s).data.toList))=Says (q4 (0 :: c :: r).length++0 :: c :: r):=by
    rw [←HS.out];rfl
   rw [←hA];generalize (q4 (bs [UInt8.ofNat 0]++s).size++(bs [UInt8.ofNat 0]++s).data.toList)=z at HT0 ⊢;clear hb hd hA hl HS;go_enter Tryz.func125,Tryz.ntmps125
   go_wp2_with (first
    | (go_at_call 124;refine (HP.out _).mono ?_;rintro e w1 ⟨rfl,hb1⟩)
    | (go_at_call 73;refine (HB.out _).mono ?_;rintro e w3 ⟨rfl,hb3⟩)
    | (go_at_call 126;refine (HT0.out _).mono ?_;rintro e w2 ⟨rfl,hb2⟩))
   go_ret;exact ⟨rfl,by exact aa⟩
  ·rw [show dP (c :: r)=c :: r from if_neg h128]
   have hb1:¬ (127:Int)<(s[0].toNat:Int):=by omega
   have hA:(Says (q4 s.size++s.data.toList))=Says (q4 (c :: r).length++c :: r):=by
    rw [←hd];rfl
   rw [←hA];generalize (q4 s.size++s.data.toList)=z at HT ⊢;clear hb hd hA hl HS;go_enter Tryz.func125,Tryz.ntmps125
   go_wp2_with (first
    | (go_at_call 124;refine (HP.out _).mono ?_;rintro e w1 ⟨rfl,hb1⟩)
    | (go_at_call 126;refine (HT.out _).mono ?_;rintro e w2 ⟨rfl,hb2⟩))
   go_ret;exact ⟨rfl,by exact aa⟩
end
end Go.Proofs.YtnhekaepgpbijaaGreatDoor
namespace Go.Proofs.YtnhekaepgpbijaaGreatDoor
open Go.RowKit Go.Extern.Stop Go.Stop Go.Extern
def aH (b:Nat):Value:=.iface 168 (.pointer (some ⟨b,0,none⟩))
def aT (w:World):Value→List (List UInt8)→Int→Prop
 | v,[],k=>v=.iface 43 (.int .i64 k)
 | v,s :: r,k=>∃b v',v=aH b∧Blk w b 170 #[.string (bs s),v']∧aT w v' r k
theorem aT.below {w w':World} (hb:Below w.heap.size w w'):∀{ps:List (List UInt8)} {v:Value} {k:Int},aT w v ps k→aT w' v ps k
 | [],_,_,h=>h
 | _ :: _,_,_,h=>by
  obtain ⟨b,v',e,hB,h2⟩:=h;exact ⟨b,v',e,hB.below hb hB.lt,aT.below hb h2⟩
theorem aT.own {w w':World} {g:Nat} {t:TypeId} {cs:Array Value} (hg:Blk w g t cs) (hne:t≠170) (hb:w.grownBy w' (some g)):∀{ps:List (List UInt8)} {v:Value} {k:Int},aT w v ps k→aT w' v ps k
 | [],_,_,h=>h
 | _ :: _,_,_,h=>by
  obtain ⟨b,v',e,hB,h2⟩:=h;exact ⟨b,v',e,hB.grown hb (fun e2=>Blk.ne_ hg hB hne (Option.some.inj e2).symm),aT.own hg hne hb h2⟩
noncomputable def Fq (w:World) (v:Value):Nat:=by
 classical exact if h:∃ps k,aT w v ps k then h.choose.length else 0
theorem wU {w:World}:∀{ps ps':List (List UInt8)} {v:Value} {k k':Int},aT w v ps k→aT w v ps' k'→ps.length=ps'.length
 | [],[],_,_,_,_,_=>rfl
 | [],_ :: _,_,_,_,h,h2=>by
  obtain ⟨b,v',e,_⟩:=h2;rw [e] at h;cases h
 | _ :: _,[],_,_,_,h,h2=>by
  obtain ⟨b,v',e,_⟩:=h;rw [e] at h2;cases h2
 | _ :: r,_ :: r2,v,_,_,h,h2=>by
  obtain ⟨b,v',rfl,hB,h3⟩:=h;obtain ⟨b2,v2,e2,hB2,h4⟩:=h2;cases e2
  have e1:=(hB.cell 1).symm.trans (hB2.cell 1);simp only [List.getElem?_toArray,List.getElem?_cons_zero,List.getElem?_cons_succ,Option.some.injEq] at e1;subst e1;rw [List.length_cons,List.length_cons,wU h3 h4]
theorem FX {w:World} {v:Value} {ps:List (List UInt8)} {k:Int} (h:aT w v ps k):Fq w v=ps.length:=by
 have hx:∃ps k,aT w v ps k:=⟨ps,k,h⟩
 unfold Fq;rw [dif_pos hx];exact wU hx.choose_spec.choose_spec h
section
variable {w : World}
theorem Po (b:Nat) {ps:List (List UInt8)} {k:Int} (h:aT w (aH b) ps k) (t:Addr) (old:Value) (hg:Hand w) (ht0:w.cell? t=some old) (hf0:w.frozen? t=false) :
  Calls Tryz.prog 187 #[aH b,.iface 265 (.pointer (some t))] w fun ev w'=>ev=.returned (.bool true)∧∃W,Below w.heap.size w W∧w'=W.setCell t (.int .i64 k):=by
 have h139:=@run_callFunc_extern Tryz.prog 249 _ (fun args=>ReflectliteValue.unpack (args.getD 0 (.tuple #[]))) Tryz.func249 (by kernel_rfl) (by kernel_rfl) (by kernel_rfl) (by kernel_rfl);have h140:=@run_callFunc_extern Tryz.prog 250 _ (ReflectliteValue.methodAny (ReflectliteValue.valueError "reflectlite.Value.Type" 0) (fun t _ _ _=>ReflectliteType.toType t)) Tryz.func250 (by kernel_rfl) (by kernel_rfl) (by kernel_rfl) (by kernel_rfl);have h141:=@run_callFunc_extern Tryz.prog 251 _ (ReflectliteValue.method (ReflectliteValue.valueError "reflectlite.Value.IsNil" 0) ReflectliteValue.isNil) Tryz.func251 (by kernel_rfl) (by kernel_rfl) (by kernel_rfl) (by kernel_rfl);have h203:=@run_callFunc_extern Tryz.prog 373 _ (ReflectliteType.abiMethod fun t=>do pure (.int .u8 (← Rtype.kind t))) Tryz.func373 (by kernel_rfl) (by kernel_rfl) (by kernel_rfl) (by kernel_rfl);have h217:=@run_callFunc_extern Tryz.prog 387 _ (ReflectliteType.method ReflectliteType.elem) Tryz.func387 (by kernel_rfl) (by kernel_rfl) (by kernel_rfl) (by kernel_rfl);have h218:=@run_callFunc_extern Tryz.prog 388 _ (ReflectliteType.relation "Implements" ReflectliteType.implements_) Tryz.func388 (by kernel_rfl) (by kernel_rfl) (by kernel_rfl) (by kernel_rfl);have h155:=@run_callFunc_extern Tryz.prog 288 _ ReflectliteType.typeOf Tryz.func288 (by kernel_rfl) (by kernel_rfl) (by kernel_rfl) (by kernel_rfl);have h215:=@run_callFunc_extern Tryz.prog 385 _ (ReflectliteType.relation "AssignableTo" ReflectliteType.assignableTo) Tryz.func385 (by kernel_rfl) (by kernel_rfl) (by kernel_rfl) (by kernel_rfl)
 have h156:=@run_callFunc_extern Tryz.prog 289 _ (ReflectliteValue.method (ReflectliteValue.valueError "reflectlite.Value.Elem" 0) ReflectliteValue.elem) Tryz.func289 (by kernel_rfl) (by kernel_rfl) (by kernel_rfl) (by kernel_rfl);have h157:=@run_callFunc_extern Tryz.prog 290 _ ReflectliteValue.set Tryz.func290 (by kernel_rfl) (by kernel_rfl) (by kernel_rfl) (by kernel_rfl);have tO:=wJ;have tE:=vX;have aFE:=PW;have aEE:=PR;have vE:=Ez;have f6:=BX;have f7:=Mt;have kEE:=L8;have kE:=P7;have eEE:=Li;have iE:=OT;have n1:=O5;have n2:=PD;have n3:=F7;have mU:=SI;have mA:=DU;have mK:=zF;have mE:=yJ;have mI:=yD;have hlt:=hg.lt
 have htl:t.block<w.heap.size:=by
  rcases Nat.lt_or_ge t.block w.heap.size with h | h
  ·exact h
  ·simp [World.cell?,Array.getElem?_eq_none h] at ht0
 have n8:=M0 ⟨w.heap.size,0,none⟩ t ((w.alloc (.cells #[.pointer (some t)] 265)).alloc (.cells #[.pointer (some ⟨9,265,none⟩),.pointer (some ⟨w.heap.size,0,none⟩),.int .u64 150] 300)) (by simp)
 have hg2:((w.alloc (.cells #[.pointer (some t)] 265)).alloc (.cells #[.pointer (some ⟨9,265,none⟩),.pointer (some ⟨w.heap.size,0,none⟩),.int .u64 150] 300)).cell? ⟨1,0,none⟩=some (.iface 331 (.agg #[.pointer (some ⟨9,41,none⟩)])):=by
  rw [World.cell?_alloc_lt _ _ ⟨1,0,none⟩ (by first | (simp;done) | (simp;omega)),World.cell?_alloc_lt _ _ ⟨1,0,none⟩ hlt];exact hg
 have el:=KW ⟨w.heap.size,0,none⟩ t (((w.alloc (.cells #[.pointer (some t)] 265)).alloc (.cells #[.pointer (some ⟨9,265,none⟩),.pointer (some ⟨w.heap.size,0,none⟩),.int .u64 150] 300)).alloc (.cells #[.pointer (some ⟨9,265,none⟩),.pointer (some ⟨w.heap.size,0,none⟩),.int .u64 150] 300)) (by rw [World.cell?_alloc_lt _ _ ⟨w.heap.size,0,none⟩ (by simp;omega)];simp)
 have st:=Ra t ⟨w.heap.size+1+1+1,0,none⟩ k old ((((w.alloc (.cells #[.pointer (some t)] 265)).alloc (.cells #[.pointer (some ⟨9,265,none⟩),.pointer (some ⟨w.heap.size,0,none⟩),.int .u64 150] 300)).alloc (.cells #[.pointer (some ⟨9,265,none⟩),.pointer (some ⟨w.heap.size,0,none⟩),.int .u64 150] 300)).alloc (.cells #[.int .i64 k] 43))
  (by rw [World.cell?_alloc_at _ _ _ _ (by simp)];rfl)
  (by rw [World.cell?_alloc_lt _ _ t (by simp;omega),World.cell?_alloc_lt _ _ t (by simp;omega),World.cell?_alloc_lt _ _ t (by simp;omega),World.cell?_alloc_lt _ _ t htl];exact ht0)
  (by rw [World.frozen?_alloc_old _ _ t (by simp;omega),World.frozen?_alloc_old _ _ t (by simp;omega),World.frozen?_alloc_old _ _ t (by simp;omega),World.frozen?_alloc_old _ _ t (Nat.ne_of_lt htl)];exact hf0)
 have hbl:Below w.heap.size w ((((w.alloc (.cells #[.pointer (some t)] 265)).alloc (.cells #[.pointer (some ⟨9,265,none⟩),.pointer (some ⟨w.heap.size,0,none⟩),.int .u64 150] 300)).alloc (.cells #[.pointer (some ⟨9,265,none⟩),.pointer (some ⟨w.heap.size,0,none⟩),.int .u64 150] 300)).alloc (.cells #[.int .i64 k] 43)):=by exact aa
 have HW3:=hide (h.below (show Below w.heap.size w (((w.alloc (.cells #[.pointer (some t)] 265)).alloc (.cells #[.pointer (some ⟨9,265,none⟩),.pointer (some ⟨w.heap.size,0,none⟩),.int .u64 150] 300)).alloc (.cells #[.pointer (some ⟨9,265,none⟩),.pointer (some ⟨w.heap.size,0,none⟩),.int .u64 150] 300)) from by exact aa));clear h hg ht0 hf0 hlt htl
 obtain ⟨w3,hw3⟩:∃w3,w3=(((w.alloc (.cells #[.pointer (some t)] 265)).alloc (.cells #[.pointer (some ⟨9,265,none⟩),.pointer (some ⟨w.heap.size,0,none⟩),.int .u64 150] 300)).alloc (.cells #[.pointer (some ⟨9,265,none⟩),.pointer (some ⟨w.heap.size,0,none⟩),.int .u64 150] 300)):=⟨_,rfl⟩
 rw [←hw3] at HW3 el;unfold aH;go_enter Tryz.func187,Tryz.ntmps187;go_wp2;rw [←hw3];have Hw3:=hide hw3;clear hw3
 go_loopw [0] (fun vi wr=>wr=w3∧∃ps' v,vi=v∧Hid (aT w3 v ps' k)) (fun vi _=>Fq w3 vi)
 case atStart=>exact ⟨rfl,ps,_,rfl,HW3⟩
 case round =>
  obtain ⟨rfl,ps',v,hv,HI⟩:=hrel;have hd:=FX HI.out
  cases ps' with
  | nil =>
   have e:v=.iface 43 (.int .i64 k):=HI.out;subst e;subst hv;have hw3:=Hw3.out;subst hw3;go_wp2;go_ret;exact ⟨rfl,_,hbl,rfl⟩
  | cons s1 r =>
   obtain ⟨b1,v1,e,q1,h1⟩:=HI.out;have hd1:=FX h1;have e1:=q1.cell 1;simp only [List.getElem?_toArray,List.getElem?_cons_zero,List.getElem?_cons_succ] at e1;have H1:=hide h1;subst e;subst hv;unfold aH
   cases r with
   | nil =>
    have e:v1=.iface 43 (.int .i64 k):=h1;subst e;clear h1 q1;go_wp2;exact ⟨⟨trivial,[],_,rfl,H1⟩,(show Fq wr (.iface 43 (.int .i64 k))<Fq wr (aH b1) from by rw [hd1,hd];simp)⟩
   | cons s2 r2 =>
    obtain ⟨b2,v2,e,_,_⟩:=h1;subst e;clear q1;unfold aH at e1;go_wp2;exact ⟨⟨trivial,_,_,rfl,H1⟩,(show Fq wr (aH b2)<Fq wr (aH b1) from by rw [hd1,hd];simp)⟩
end
end Go.Proofs.YtnhekaepgpbijaaGreatDoor
namespace Go.Proofs.YtnhekaepgpbijaaGreatDoor
open Go.RowKit
section
variable {w : World}
theorem bH (s:ByteArray) (k:Int) (hk:(k == 0)=false) (w:World):Calls Tryz.prog 43 #[.string s,.int .i64 k] w (fun e w'=>∃b,e=.returned (aH b)∧aT w' (aH b) [s.data.toList] k∧Below w.heap.size w w'):=by
 go_enter Tryz.func43,Tryz.ntmps43;go_wp2;go_ret;exact ⟨w.heap.size,rfl,⟨_,_,rfl,Blk.new _ _ _,rfl⟩,by exact aa⟩
theorem Gm (s:ByteArray) (w:World):Calls Tryz.prog 43 #[.string s,.int .i64 0] w (fun e w'=>e=.returned .nilIface∧w'=w):=by
 go_enter Tryz.func43,Tryz.ntmps43;go_wp2;go_ret;exact ⟨rfl,rfl⟩
theorem kL (s:ByteArray) (b:Nat) {ps:List (List UInt8)} {k:Int} (h:aT w (aH b) ps k):Calls Tryz.prog 47 #[.string s,aH b] w (fun e w'=>∃b',e=.returned (aH b')∧aT w' (aH b') (s.data.toList :: ps) k∧Below w.heap.size w w'):=by
 have H:=hide (fun w' (hb:Below w.heap.size w w')=>h.below hb);unfold aH;clear h;go_enter Tryz.func47,Tryz.ntmps47;go_wp2;go_ret;exact ⟨w.heap.size,rfl,⟨_,_,rfl,Blk.new _ _ _,H.out _ (by exact aa)⟩,by exact aa⟩
theorem NF (b:Nat) {ps:List (List UInt8)} {k:Int} (h:aT w (aH b) ps k) (hg:Hand w):Calls Tryz.prog 107 #[aH b] w (fun e w'=>e=.returned (.int .i64 k)∧Below w.heap.size w w'):=by
 have hb0:=(Below.refl w.heap.size w).alloc (Nat.le_refl _) (.cells #[.int .i64 0] 43);have hB:=Blk.new w 43 #[.int .i64 0];have HA:=hide (Po b (h.below hb0) ⟨w.heap.size,0,none⟩ (.int .i64 0) (hg.below hb0) (hB.cell 0) (hB.frozen 0));clear hg h;unfold aH at HA ⊢;go_enter Tryz.func107,Tryz.ntmps107;go_wp2_with fail;refine HA.out.mono ?_;rintro e w1 ⟨rfl,W,hbW,rfl⟩
 have hc:(W.setCell ⟨w.heap.size,0,none⟩ (.int .i64 k)).cell? ⟨w.heap.size,0,none⟩=some (.int .i64 k):=by
  have:=(hB.below hbW hB.lt).set_ 0 (.int .i64 k);simpa using this.cell 0
 have hbl:Below w.heap.size w (W.setCell ⟨w.heap.size,0,none⟩ (.int .i64 k)):=(hb0.trans (hbW.mono hb0.size)).setCell (Nat.le_refl _) _;clear hB hb0 hbW;go_wp2_with fail;go_ret;exact ⟨rfl,hbl⟩
theorem bP {B0 size n:Nat} {t:TypeId} {v:Value} {xs:List Value} {w w':World} (h:w.ownsRow B0 t size v n xs) (hb:Below w.heap.size w w'):w'.ownsRow B0 t size v n xs:=by
 refine h.kept (ai hb none) ?_
 cases eo:v.ownBlock with
 | none=>exact .inl rfl
 | some i=>exact .inr (fun e=>by cases e)
theorem di {w:World} {base:Nat} {e:TypeId} {size n:Nat} {v:Value} {xs:List Value} (h:w.ownsRow base e size v n xs):∃A c,v=.slice A n c:=by
 rcases h.2 with ⟨rfl,rfl⟩ | ⟨g',cap,cur,rfl,_⟩
 ·exact ⟨none,0,rfl⟩
 ·exact ⟨_,_,rfl⟩
theorem dx {W:World} {b:Nat} {t:TypeId} {us:List Value} {size m:Nat} (h:Blk W b t us.toArray) (hl:us.length=m*size):Reads W W.heap.size size (some ⟨b,0,none⟩) m us :=
 ⟨hl,fun _=>⟨_,rfl,h.lt,fun j u hu=>by rw [bJ,h.cell j];simpa using hu⟩⟩
theorem dK {o:Option TypeInfo} {z:Option Value} {n b:Nat} (h:o.map (fun i=>(i.zero,i.size,i.bytes))=some (z,n,b)):∃i,o=some i∧i.zero=z∧i.size=n∧i.bytes=b:=by
 cases o with
 | none=>cases h
 | some i =>
  simp only [Option.map_some,Option.some.injEq,Prod.mk.injEq] at h;exact ⟨i,rfl,h.1,h.2.1,h.2.2⟩
theorem Ky {w:World} {B i:Nat} {e:TypeId} {v:Value} {ls:List (List UInt8)} (h:w.ownsRow B e 1 v i ((ls.map bs).map Value.string)) (hi:(ls.map bs).length=i):Txs w v ls:=by
 obtain ⟨A,c,rfl⟩:=di h;refine ⟨A,c,by rw [hi],?_⟩;rw [hi];exact Sl.of_reads (Reads.of_own h)
theorem FT:(Tryz.prog.info? 9).map (fun i=>(i.zero,i.size,i.bytes))=some (some (.string ⟨#[]⟩),1,16):=by kernel_rfl
def Je:Value→Nat
 | .slice _ n _=>n
 | _=>0
structure Q4 (w:World) (ps:List (List UInt8)) (k:Int) (tb:Nat) (i:Nat) (A:Option Addr) (c:Nat) (vi:Value) (wr:World):Prop where
 err:aT w vi (ps.drop i) k
 own:wr.ownsRow w.heap.size 9 1 (.slice A i c) i (((ps.take i).map bs).map Value.string)
 blk:∃p,Blk wr tb 168 #[.pointer p]
 bel:Below w.heap.size w wr
theorem NL (b:Nat) {ps:List (List UInt8)} {k:Int} (hps:ps.length≤1000) (h:aT w (aH b) ps k) (hg:Hand w):Calls Tryz.prog 106 #[aH b] w (fun e w'=>∃A c,e=.returned (.slice A ps.length c)∧Txs w' (.slice A ps.length c) ps∧Below w.heap.size w w'):=by
  have hb0:=(Below.refl w.heap.size w).alloc (Nat.le_refl _) (.cells #[.pointer none] 168);have hB:=Blk.new w 168 #[.pointer none]
  obtain ⟨w0,hw0⟩:∃w0,w0=w.alloc (.cells #[.pointer none] 168):=⟨_,rfl⟩
  rw [←hw0] at hb0 hB
  obtain ⟨tb,htb⟩:∃tb,tb=w.heap.size:=⟨_,rfl⟩
  rw [←htb] at hB;obtain ⟨iI,hiI,hI0,hI1,hI2⟩:=dK FT;have HP0:=hide (show Q4 w ps k tb 0 none 0 (aH b) w0 from ⟨h,World.ownsRow_nil _ _ _ _,⟨none,hB⟩,hb0⟩);have Hg:=hide hg;unfold aH at HP0 ⊢;clear h hg hB hb0;go_enter Tryz.func106,Tryz.ntmps106;go_upto_region 3 with fail;rw [←hw0,← htb];have Htb:=hide htb;clear hw0 htb
  go_loopw [0,3] (fun ve vo wr=>∃(i:Nat) (A:Option Addr) (c:Nat),vo=.slice A i c∧i≤ps.length∧Hid (Q4 w ps k tb i A c ve wr)) (fun _ vo _=>ps.length - Je vo)
  case atStart=>exact ⟨0,none,0,rfl,Nat.zero_le _,HP0⟩
  case round =>
    obtain ⟨i,A,c,rfl,hi,HI⟩:=hrel;have herr:=HI.out.err;obtain ⟨p0,hBl⟩:=HI.out.blk;have hbr:=HI.out.bel;have hown:=HI.out.own
    by_cases hlt:i<ps.length
    · rw [List.drop_eq_getElem_cons hlt] at herr
      obtain ⟨b1,v',rfl,q1,herr2⟩:=herr
      have htk:=hide (show ((ps.take (i+1)).map bs).map Value.string=((ps.take i).map bs).map Value.string++[.string (bs ps[i])] from by
        rw [List.take_succ_eq_append_getElem hlt,List.map_append,List.map_append]
        rfl)
      have Herr2:=hide herr2;have H1:=hide (Qs (w:=wr) ⟨b1,0,none⟩ ⟨tb,0,none⟩ (.pointer p0) (Hg.out.below hbr) (hBl.cell 0) (hBl.frozen 0));have HO:=hide hown;have HQ:=hide q1;have HB:=hide hBl;have Hbr:=hide hbr;have hi0:i≤1000:=by omega
      unfold aH at H1 ⊢;clear herr2 hown q1 hBl hbr HI;go_wp2_with fail;refine H1.out.mono ?_;rintro e w1 ⟨rfl,W1,hbW1,rfl⟩;have hbX1:Below w.heap.size w (W1.setCell ⟨tb,0,none⟩ (.pointer (some ⟨b1,0,none⟩))):=(Hbr.out.trans (hbW1.mono Hbr.out.size)).setCell (by rw [Htb.out];exact Nat.le_refl _) _
      have hBX1:Blk (W1.setCell ⟨tb,0,none⟩ (.pointer (some ⟨b1,0,none⟩))) tb 168 #[.pointer (some ⟨b1,0,none⟩)]:=by
        have:=(HB.out.below hbW1 HB.out.lt).set_ 0 (.pointer (some ⟨b1,0,none⟩));simpa using this
      have hoX1:(W1.setCell ⟨tb,0,none⟩ (.pointer (some ⟨b1,0,none⟩))).ownsRow w.heap.size 9 1 (.slice A i c) i (((ps.take i).map bs).map Value.string):=by
        have h1:wr.grownBy (W1.setCell ⟨tb,0,none⟩ (.pointer (some ⟨b1,0,none⟩))) (some tb):=ag (ai hbW1 (some tb)) (.inl rfl) _;refine HO.out.kept h1 ?_
        cases eo:(Value.slice A i c).ownBlock with
        | none=>exact .inl rfl
        | some j=>exact .inr (fun e=>by
            have:=Option.some.inj e;subst this
            exact aS HO.out HB.out (by decide) eo)
      generalize W1.setCell ⟨tb,0,none⟩ (.pointer (some ⟨b1,0,none⟩))=X1 at hbX1 hBX1 hoX1 ⊢;have c1:X1.cell? ⟨tb,0,none⟩=some (.pointer (some ⟨b1,0,none⟩)):=hBX1.cell 0;have c2:X1.cell? ⟨b1,0,none⟩=some (.string (bs ps[i])):=(HQ.out.below hbX1 HQ.out.lt).cell 0
      have hsz1:w.heap.size≤(X1.alloc (.cells #[.string (bs ps[i])] 9)).heap.size:=by
        have:=hbX1.size;simp only [World.size_alloc];omega
      clear hbW1 H1 HO
      go_wp2_with (first
        | (at_builtin;refine aA _ rfl (.tmp 16) (.tmp 21) _ rfl w.heap.size 9 iI (.string ⟨#[]⟩) 1 16 Tryz.underlying22 hiI hI0 hI1 hI2 rfl (by decide) (.slice A i c) i _ rfl (hoX1.alloc _) _ (some ⟨_,0,none⟩) 1 1 [.string (bs ps[i])] rfl (dx (Blk.new _ _ _) rfl) (by simp [Value.oneCell']) (by unfold maxLen;omega) (by omega) (by simp only [World.size_alloc];have:=hbX1.size;omega) ?_;intro v6 w6 hown6 hgr6 hor6;obtain ⟨A6,c6,rfl⟩:=di hown6;
           have hbY:=(hbX1.alloc hbX1.size (.cells #[.string (bs ps[i])] 9)).grown hgr6 hsz1 (fun k e=>(hoX1.lt k e).1);
           have hBY:=Blk.grown (hBX1.alloc (.cells #[.string (bs ps[i])] 9)) hgr6 (fun e=>aS hoX1 hBX1 (by decide) e.symm);
           have d1:=hBY.cell 0;have d2:=(HQ.out.below hbY HQ.out.lt).cell 1;simp only [List.getElem?_toArray,List.getElem?_cons_zero,List.getElem?_cons_succ] at d1 d2)
        | fail)
      refine ⟨⟨i+1,A6,c6,by first | rfl | (simp;done),by omega,hide ⟨Herr2.out,?_,⟨_,hBY⟩,hbY⟩⟩,by simp [Je];omega⟩;rw [htk.out];exact hown6
    · have hil:i=ps.length:=by omega
      subst hil;rw [List.drop_length] at herr;cases herr
      have H3:=hide (Kr (w:=wr) k ⟨tb,0,none⟩ (.pointer p0) (Hg.out.below hbr) (hBl.cell 0));have HO:=hide hown;have Hbr:=hide hbr;clear hBl hbr hown HI;go_wp2_with fail;refine H3.out.mono ?_;rintro e w8 ⟨rfl,hb8⟩;have ho8:=bP HO.out hb8;rw [List.take_length] at ho8;go_wp2_with fail;go_ret;exact ⟨A,c,rfl,Ky ho8 (by rw [List.length_map]),Hbr.out.trans (hb8.mono Hbr.out.size)⟩
end
end Go.Proofs.YtnhekaepgpbijaaGreatDoor
