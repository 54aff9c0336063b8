/- Several of my texts in one: PutM, PutN, RPut. -/
import Derived.Test.YtnhekaepgpbijaaGreatDoorJMsgHG
import Derived.Test.YtnhekaepgpbijaaGreatDoorJCfBG
import Derived.Test.YtnhekaepgpbijaaGreatDoorJChnG
import Derived.Deep.RegionHeld3
import Derived.Deep.DeepCutAuto
set_option linter.unusedVariables false
set_option linter.unusedSimpArgs false
set_option maxHeartbeats 40000000
set_option maxRecDepth 100000
namespace Go.Proofs.YtnhekaepgpbijaaGreatDoor
open Go.RowKit Go.ChangeShapes Go.WideShapes Go.Sort
def dV (x:Fld) (lv:Value):Value:=.agg #[.int .u8 x.k,.int .i64 x.n,.string (bs x.s),lv]
structure SzF (x:Fld):Prop where
 s:x.s.length≤100000
 n:x.l.length≤1000
 l:∀y∈x.l,y.length≤100000
section
variable {w : World}
theorem qx (n:Nat) (w:World) (h1:n<256):Calls Tryz.prog 118 #[.int .u8 n] w (Says [UInt8.ofNat n] w):=by
 go_enter Tryz.func118,Tryz.ntmps118;go_wp2;go_ret;exact ⟨rfl,by exact aa⟩
theorem wR (b:Bool) (w:World):Calls Tryz.prog 199 #[.bool b] w (Says [if b=true then 1 else 0] w):=by
 cases b with
 | true =>
  have H:=hide (qx 1 w (by decide));go_enter Tryz.func199,Tryz.ntmps199;go_wp2_with (go_at_call 118;refine H.out.mono ?_;rintro e w1 ⟨rfl,hb1⟩);go_ret;exact ⟨rfl,hb1⟩
 | false =>
  have H:=hide (qx 0 w (by decide));go_enter Tryz.func199,Tryz.ntmps199;go_wp2_with (go_at_call 118;refine H.out.mono ?_;rintro e w1 ⟨rfl,hb1⟩);go_ret;exact ⟨rfl,hb1⟩
theorem iX {k:Nat} {n:Nat} (h:¬ k=n):((k:Int) == (n:Int))=false:=by rw [beq_eq_false_iff_ne];omega
theorem Tt {k:Nat} {n:Nat} (h:k=n):((k:Int) == (n:Int))=true:=by rw [h];simp
theorem CR (k:Nat) (w:World):Calls Tryz.prog 198 #[.int .u8 k] w (fun e w'=>e=.returned (.int .i64 (cntF k))∧w'=w):=by
 by_cases h1:k=98
 ·subst h1
  go_enter Tryz.func198,Tryz.ntmps198;go_wp2;go_ret;exact ⟨rfl,rfl⟩
 ·by_cases h2:k=117
  ·subst h2
   go_enter Tryz.func198,Tryz.ntmps198;go_wp2;go_ret;exact ⟨rfl,rfl⟩
  ·by_cases h3:k=110
   ·subst h3
    go_enter Tryz.func198,Tryz.ntmps198;go_wp2;go_ret;exact ⟨rfl,rfl⟩
   ·by_cases h4:k=101
    ·subst h4
     go_enter Tryz.func198,Tryz.ntmps198;go_wp2;go_ret;exact ⟨rfl,rfl⟩
    ·have E:=hide (show cntF k=1 from by unfold cntF;rw [if_neg (by omega),if_neg (by omega)])
     have e1:((k:Int) == 98)=false:=iX h1;have e2:((k:Int) == 117)=false:=iX h2;have e3:((k:Int) == 110)=false:=iX h3;have e4:((k:Int) == 101)=false:=iX h4;go_enter Tryz.func198,Tryz.ntmps198;go_wp2;go_ret;exact ⟨by rw [E.out];rfl,rfl⟩
theorem E9 (k:Nat) (n:Int) (s:ByteArray) (A:Option Addr) (m c cn:Nat) (hcn:cn=0∨cn=1∨cn=2) (HC:Hid (∀W,Calls Tryz.prog 198 #[.int .u8 k] W (fun e w'=>e=.returned (.int .i64 cn)∧w'=W))) (bn b2 b3:Bool)
  (hn:(n == 0)=bn) (hs:(s.toList == [])=b2) (hl:((m:Int) == 0)=b3) :
  Calls Tryz.prog 119 #[.agg #[.int .u8 k,.int .i64 n,.string s,.slice A m c]] w (fun e w'=>e=.returned (.bool ((decide (cn=0) || bn) && ((decide (cn=1) || b2) && (decide (cn=2) || b3))))∧Below w.heap.size w w'):=by
 rcases hcn with rfl | rfl | rfl <;> cases bn <;> cases b2 <;> cases b3
 all_goals
  go_enter Tryz.func119,Tryz.ntmps119;go_wp2_with (first | (go_at_call 198;refine (HC.out _).mono ?_;rintro e w1 ⟨rfl,rfl⟩) | fail);go_ret;exact ⟨rfl,by exact aa⟩
theorem I6 (k:Nat):cntF k=0∨cntF k=1∨cntF k=2:=by
 unfold cntF
 split
 ·exact .inl rfl
 ·split
  ·exact .inr (.inr rfl)
  ·exact .inr (.inl rfl)
theorem Jy (x:Fld) {A:Option Addr} {c:Nat} (w:World):Calls Tryz.prog 119 #[dV x (.slice A x.l.length c)] w (fun e w'=>e=.returned (.bool (bz x))∧Below w.heap.size w w'):=by
 have h:=E9 (w:=w) x.k x.n (bs x.s) A x.l.length c (cntF x.k) (I6 _) (hide (fun W=>CR x.k W)) (decide (x.n=0)) x.s.isEmpty x.l.isEmpty (by
  rw [Bool.eq_iff_iff];simp) (by rw [aN];cases x.s <;> rfl) (by
  cases x.l with
  | nil=>rfl
  | cons a b=>rw [List.isEmpty_cons,beq_eq_false_iff_ne,List.length_cons];omega)
 exact h
def jK (l:List (List UInt8)) (i:Nat):List UInt8:=((l.take i).map bC).flatten
theorem wQ {l:List (List UInt8)} {i:Nat} (h:i<l.length):jK l (i+1)=jK l i++bC l[i]:=by
 unfold jK;rw [List.take_succ_eq_append_getElem h,List.map_append,List.flatten_append,List.map_singleton,List.flatten_singleton]
theorem sK {l:List (List UInt8)} (h:∀y∈l,y.length≤100000):(l.map bC).flatten.length≤l.length*100004:=by
 induction l with
 | nil=>simp
 | cons x l ih =>
  have h1:=h x (by simp);have h2:=ih (fun y hy=>h y (by simp [hy]));simp only [List.map_cons,List.flatten_cons,List.length_append,List.length_cons,bC,bU];omega
theorem KI (l:List (List UInt8)) {A:Option Addr} {c:Nat} (ht:Txs w (.slice A l.length c) l) (hn:l.length≤1000) (hy:∀y∈l,y.length≤100000) :
  Calls Tryz.prog 204 #[.slice A l.length c] w (fun e w'=>e=.returned (.tuple #[.string (bs (aG ⟨101,0,[],l⟩).2),.int .i64 (aG ⟨101,0,[],l⟩).1])∧Below w.heap.size w w'):=by
 by_cases h1:l.length % 2=1
 ·have E:=hide (show aG ⟨101,0,[],l⟩=(3,[]) from by simp [aG,h1])
  have e1:((Int.tmod (l.length:Int) 2) == 0)=false:=by
   rw [beq_eq_false_iff_ne,Int.tmod_eq_emod_of_nonneg (by omega)];omega
  go_enter Tryz.func204,Tryz.ntmps204;go_wp2_with fail;go_ret2;exact ⟨by rw [E.out];rfl,by exact aa⟩
 ·have e1:((Int.tmod (l.length:Int) 2) == 0)=true:=by
   rw [beq_iff_eq,Int.tmod_eq_emod_of_nonneg (by omega)];omega
  by_cases h2:16<l.length
  ·have E:=hide (show aG ⟨101,0,[],l⟩=(2,[]) from by simp [aG,h1,h2])
   have e2:(16:Int)<l.length:=by omega
   go_enter Tryz.func204,Tryz.ntmps204;go_wp2_with fail;go_ret2;exact ⟨by rw [E.out];rfl,by exact aa⟩
  ·have E:=hide (show aG ⟨101,0,[],l⟩=(0,kY l) from by simp [aG,h1,h2])
   have e2:¬ (16:Int)<l.length:=by omega
   have e3:Int.tdiv (l.length:Int) 2=((l.length / 2:Nat):Int):=by
    rw [Int.tdiv_eq_ediv_of_nonneg (by omega)];omega
   have e4:IntKind.u32.wrap ((l.length / 2:Nat):Int)=((l.length / 2:Nat):Int):=by
    simp only [IntKind.wrap,IntKind.bits,IntKind.signed];simp;omega
   have HU:=hide (fun W=>oZ (l.length / 2) W (by omega));have HT:=hide (fun W (i:Nat) (hi:i<l.length)=>pM l[i] W (by have:=hy _ (List.getElem_mem hi);omega));have HS:=hide (fun (i:Nat)=>show (jK l i).length≤1000*100004 from Nat.le_trans (sK (l:=l.take i) (fun y h=>hy y (List.mem_of_mem_take h))) (Nat.mul_le_mul_right 100004 (Nat.le_trans (by rw [List.length_take];omega:(l.take i).length≤l.length) hn)));have HX:=hide ht;have HY:=hide hy;clear ht hy;go_enter Tryz.func204,Tryz.ntmps204;go_wp2_with (first | (go_at_call 200;refine (HU.out _).mono ?_;rintro e w1 ⟨rfl,hb1⟩) | fail)
   go_loopw [4,23] (fun v vi wr=>∃i:Nat,v=.string (bs (q4 (l.length / 2)++jK l i))∧vi=.int .i64 i∧i≤l.length∧Below w.heap.size w wr) (fun _ vi _=>l.length - (intOf vi).toNat)
   case atStart=>exact ⟨0,by rw [show jK l 0=[] from rfl,List.append_nil],rfl,Nat.zero_le _,hb1⟩
   case round =>
    obtain ⟨i,rfl,rfl,hi,hb⟩:=hrel
    by_cases hlt:i<l.length
    ·have hii:(i:Int)<l.length:=by omega
     obtain ⟨A',c',hv,hA⟩:=(HX.out.below hb).open_;obtain ⟨rfl,rfl⟩:A'=A∧c'=c:=by injection hv with e1 _ e2;exact ⟨e1.symm,e2.symm⟩
     obtain ⟨ad,rfl,had,hc0⟩:=hA i hlt;have hfl:=hide (wQ hlt);have hT:=hide (HT.out wr i hlt);have hs1:=HS.out i;have hs2:=HY.out _ (List.getElem_mem hlt);have hsz:(q4 (l.length / 2)).length+(jK l i).length≤200000000:=by rw [bU];omega
     generalize hQ:q4 (l.length / 2)=Q at hsz;generalize l[i]=y at hc0 hfl hT hs2;clear hv hA hQ hs1;go_wp2_with (first | (go_at_call 203;refine hT.out.mono ?_;rintro e w2 ⟨rfl,hb2⟩) | fail);refine ⟨⟨i+1,?_,by go_num,by omega,hb.trans (hb2.mono hb.size)⟩,by simp [intOf];omega⟩;rw [hfl.out];rfl
    ·have hil:i=l.length:=by omega
     subst hil;clear HS HT HU;have hE:q4 (l.length / 2)++jK l l.length=kY l:=by unfold jK;rw [List.take_length];rfl
     rw [hE];go_wp2_with fail;go_ret2;exact ⟨by rw [E.out];rfl,hb⟩
end
def rD (x:Fld) (w:World) (e:Ending) (w':World):Prop:=e=.returned (.tuple #[.string (bs (aG x).2),.int .i64 (aG x).1])∧Below w.heap.size w w'
theorem dQ {x:Fld} {w w':World} {e:Ending} {n:Nat} {l:List UInt8} (h:aG x=(n,l)) (he:e=.returned (.tuple #[.string (bs l),.int .i64 n])) (hb:Below w.heap.size w w'):rD x w e w':=by
 unfold rD;rw [h];exact ⟨he,hb⟩
section
variable {w : World}
theorem R6 (n:Int) (s:List UInt8) (l:List (List UInt8)) {A:Option Addr} {c:Nat}:Calls Tryz.prog 120 #[dV ⟨98,n,s,l⟩ (.slice A l.length c)] w (rD ⟨98,n,s,l⟩ w):=by
 unfold dV;simp only;have HT:=hide (fun W=>wR true W);have HF:=hide (fun W=>wR false W)
 by_cases h0:n=0
 ·subst h0
  have E:=hide (show aG ⟨98,0,s,l⟩=(0,[0]) from rfl);go_enter Tryz.func120,Tryz.ntmps120;go_wp2_with (first | (go_at_call 199;refine (HF.out _).mono ?_;rintro e w1 ⟨rfl,hb1⟩) | fail);go_ret2;exact dQ E.out rfl (by exact aa)
 ·by_cases h1:n=1
  ·subst h1
   have E:=hide (show aG ⟨98,1,s,l⟩=(0,[1]) from rfl);go_enter Tryz.func120,Tryz.ntmps120;go_wp2_with (first | (go_at_call 199;refine (HT.out _).mono ?_;rintro e w1 ⟨rfl,hb1⟩) | fail);go_ret2;exact dQ E.out rfl (by exact aa)
  ·have E:=hide (show aG ⟨98,n,s,l⟩=(5,[]) from by simp [aG,h0,h1])
   have e0:(n == 0)=false:=by rw [beq_eq_false_iff_ne];exact h0
   have e1:(n == 1)=false:=by rw [beq_eq_false_iff_ne];exact h1
   have e2:(n != 0)=true:=by simp [bne,e0]
   have e3:(n != 1)=true:=by simp [bne,e1]
   clear h0 h1;go_enter Tryz.func120,Tryz.ntmps120;go_wp2_with fail;go_ret2;exact dQ E.out rfl (by exact aa)
theorem Pq (n:Int) (s:List UInt8) (l:List (List UInt8)) {A:Option Addr} {c:Nat}:Calls Tryz.prog 120 #[dV ⟨117,n,s,l⟩ (.slice A l.length c)] w (rD ⟨117,n,s,l⟩ w):=by
 unfold dV;simp only
 by_cases h0:n<0
 ·have E:=hide (show aG ⟨117,n,s,l⟩=(5,[]) from by
   simp only [aG]
   rw [if_neg (by decide),if_pos trivial,if_neg (by omega)])
  go_enter Tryz.func120,Tryz.ntmps120;go_wp2_with fail;go_ret2;exact dQ E.out rfl (by exact aa)
 ·by_cases h1:4294967295<n
  ·have E:=hide (show aG ⟨117,n,s,l⟩=(5,[]) from by
    simp only [aG]
    rw [if_neg (by decide),if_pos trivial,if_neg (by omega)])
   go_enter Tryz.func120,Tryz.ntmps120;go_wp2_with fail;go_ret2;exact dQ E.out rfl (by exact aa)
  ·obtain ⟨m,rfl⟩:∃m:Nat,n=m:=⟨n.toNat,by omega⟩
   have E:=hide (show aG ⟨117,m,s,l⟩=(0,q4 m) from by
    simp only [aG];rw [if_neg (by decide),if_pos trivial,if_pos ⟨by omega,by omega⟩]
    simp)
   have HU:=hide (fun W=>oZ m W (by omega))
   have hw:IntKind.u32.wrap (m:Int)=m:=by
    simp only [IntKind.wrap,IntKind.bits,IntKind.signed];simp;omega
   go_enter Tryz.func120,Tryz.ntmps120;go_wp2_with (first | (go_at_call 200;refine (HU.out _).mono ?_;rintro e w1 ⟨rfl,hb1⟩) | fail);go_ret2;exact dQ E.out rfl (by exact aa)
theorem PS (n:Int) (s:List UInt8) (l:List (List UInt8)) {A:Option Addr} {c:Nat} (hs:s.length≤100000):Calls Tryz.prog 120 #[dV ⟨109,n,s,l⟩ (.slice A l.length c)] w (rD ⟨109,n,s,l⟩ w):=by
 unfold dV;simp only;have HW:=hide (fun W=>EM (bs s) W (by rw [aR];omega));rw [aU] at HW
 cases s with
 | nil =>
  have E:=hide (show aG ⟨109,n,[],l⟩=(0,fO []) from rfl);have e1:(bs []).toList.isEmpty=true:=by rw [aN];rfl
  have e2:((bs []).toList == [])=true:=by rw [aN];rfl
  go_enter Tryz.func120,Tryz.ntmps120;go_wp2_with (first | (go_at_call 201;refine (HW.out _).mono ?_;rintro e w1 ⟨rfl,hb1⟩) | fail);go_ret2;exact dQ E.out rfl (by exact aa)
 | cons d r =>
  have e1:=AC d r;have e2:((bs (d :: r)).toList == [])=false:=by rw [aN];rfl
  have hpos:0<(bs (d :: r)).size:=by rw [aR];simp
  have g0:(bs (d :: r))[0]=d:=rfl
  by_cases h0:d=0
  ·subst h0
   have E:=hide (show aG ⟨109,n,0 :: r,l⟩=(3,[]) from by simp [aG,dI]);have e3:(((bs (0 :: r))[0].toNat:Int) == 0)=true:=by rw [g0];rfl
   clear g0;go_enter Tryz.func120,Tryz.ntmps120;go_wp2_with fail;go_ret2;exact dQ E.out rfl (by exact aa)
  ·have E:=hide (show aG ⟨109,n,d :: r,l⟩=(0,fO (d :: r)) from by simp [aG,dI,h0])
   have h9:d.toNat≠0:=fun e=>h0 (UInt8.toNat_inj.1 (by simpa using e))
   have e3:(((bs (d :: r))[0].toNat:Int) == 0)=false:=by rw [g0,beq_eq_false_iff_ne];omega
   clear g0 h0 h9;go_enter Tryz.func120,Tryz.ntmps120;go_wp2_with (first | (go_at_call 201;refine (HW.out _).mono ?_;rintro e w1 ⟨rfl,hb1⟩) | fail);go_ret2;exact dQ E.out rfl (by exact aa)
theorem OG (n:Int) (s:List UInt8) (l:List (List UInt8)) {A:Option Addr} {c:Nat} (ht:Txs w (.slice A l.length c) l) (hc:l.length≤c) (hl:∀y∈l,y.length≤100000):Calls Tryz.prog 120 #[dV ⟨110,n,s,l⟩ (.slice A l.length c)] w (rD ⟨110,n,s,l⟩ w):=by
 unfold dV;simp only;have HJ:=hide (fun W (hb:Below w.heap.size w W)=>p8 (ht.below hb) hc (fun y hy=>by have:=hl y hy;omega));rcases iM l with h9 | h9 | h9
 ·have E:=hide (show aG ⟨110,n,s,l⟩=(0,bC (bv l)) from by simp [aG,h9])
  have hj:kH l=bv l:=by unfold kH;rw [if_pos h9]
  obtain ⟨w1,w2⟩:=iK h9;have hjl:=jd (l:=l) (fun y hy=>(fH (w2 y hy)).2);have HT:=hide (fun W=>pM (bv l) W (by omega));rw [h9,hj] at HJ;clear h9 hj w1 w2 hjl ht hl;go_enter Tryz.func120,Tryz.ntmps120;go_wp2_with (first | (go_at_call 202;refine (HJ.out _ (by exact aa)).mono ?_;rintro e w1 ⟨rfl,hb1⟩) | fail);refine (HT.out _).mono ?_;rintro e w2 ⟨rfl,hb2⟩;go_wp2_with fail;go_ret2;exact dQ E.out rfl (by exact aa)
 ·have E:=hide (show aG ⟨110,n,s,l⟩=(2,[]) from by simp [aG,h9])
  have hj:kH l=[]:=by unfold kH;rw [if_neg (by omega)]
  rw [h9,hj] at HJ;clear h9 hj ht hl;go_enter Tryz.func120,Tryz.ntmps120;go_wp2_with (first | (go_at_call 202;refine (HJ.out _ (by exact aa)).mono ?_;rintro e w1 ⟨rfl,hb1⟩) | fail);go_ret2;exact dQ E.out rfl (by exact aa)
 ·have E:=hide (show aG ⟨110,n,s,l⟩=(3,[]) from by simp [aG,h9])
  have hj:kH l=[]:=by unfold kH;rw [if_neg (by omega)]
  rw [h9,hj] at HJ;clear h9 hj ht hl;go_enter Tryz.func120,Tryz.ntmps120;go_wp2_with (first | (go_at_call 202;refine (HJ.out _ (by exact aa)).mono ?_;rintro e w1 ⟨rfl,hb1⟩) | fail);go_ret2;exact dQ E.out rfl (by exact aa)
theorem Rq (n:Int) (s:List UInt8) (l:List (List UInt8)) {A:Option Addr} {c:Nat}:Calls Tryz.prog 120 #[dV ⟨99,n,s,l⟩ (.slice A l.length c)] w (rD ⟨99,n,s,l⟩ w):=by
 unfold dV;simp only;have hsz:(bs s).size=s.length:=rfl
 by_cases h0:s.length=16
 ·have E:=hide (show aG ⟨99,n,s,l⟩=(0,s) from by simp [aG,h0])
  have e1:((s.length:Int) == 16)=true:=by rw [beq_iff_eq];omega
  have e2:((s.length:Int) != 16)=false:=by simp [bne,e1]
  clear h0;go_enter Tryz.func120,Tryz.ntmps120;go_wp2_with fail;go_ret2;exact dQ E.out rfl (by exact aa)
 ·have E:=hide (show aG ⟨99,n,s,l⟩=(3,[]) from by simp [aG,h0])
  have e1:((s.length:Int) == 16)=false:=by rw [beq_eq_false_iff_ne];omega
  have e2:((s.length:Int) != 16)=true:=by simp [bne,e1]
  clear h0;go_enter Tryz.func120,Tryz.ntmps120;go_wp2_with fail;go_ret2;exact dQ E.out rfl (by exact aa)
theorem OE (n:Int) (s:List UInt8) (l:List (List UInt8)) {A:Option Addr} {c:Nat} (ht:Txs w (.slice A l.length c) l) (hn:l.length≤1000) (hl:∀y∈l,y.length≤100000):Calls Tryz.prog 120 #[dV ⟨101,n,s,l⟩ (.slice A l.length c)] w (rD ⟨101,n,s,l⟩ w):=by
 unfold dV;simp only;have HJ:=hide (fun W (hb:Below w.heap.size w W)=>KI l (ht.below hb) hn hl);have hsame:aG ⟨101,n,s,l⟩=aG ⟨101,0,[],l⟩:=by simp [aG]
 have HS:=hide hsame;generalize aG ⟨101,0,[],l⟩=pp at HJ HS;clear hsame ht hl;go_enter Tryz.func120,Tryz.ntmps120;go_wp2_with (first | (go_at_call 204;refine (HJ.out _ (by exact aa)).mono ?_;rintro e w1 ⟨rfl,hb1⟩) | fail);go_ret2;exact dQ HS.out rfl (by exact aa)
theorem M5 (k:Nat) (n:Int) (s:List UInt8) (l:List (List UInt8)) {A:Option Addr} {c:Nat} (hs:s.length≤100000) (h0:¬ k=98) (h1:¬ k=117) (h2:¬ k=109) (h3:¬ k=110) (h4:¬ k=99) (h5:¬ k=101) :
  Calls Tryz.prog 120 #[dV ⟨k,n,s,l⟩ (.slice A l.length c)] w (rD ⟨k,n,s,l⟩ w):=by
 unfold dV;simp only;have HT:=hide (fun W=>pM s W (by omega));have E:=hide (show aG ⟨k,n,s,l⟩=(0,bC s) from by simp [aG,h0,h1,h2,h3,h4,h5]);have e0:((k:Int) == 98)=false:=iX h0;have e1:((k:Int) == 117)=false:=iX h1;have e2:((k:Int) == 109)=false:=iX h2;have e3:((k:Int) == 110)=false:=iX h3;have e4:((k:Int) == 99)=false:=iX h4;have e5:((k:Int) == 101)=false:=iX h5;clear h0 h1 h2 h3 h4 h5;go_enter Tryz.func120,Tryz.ntmps120;go_wp2_with (first | (go_at_call 203;refine (HT.out _).mono ?_;rintro e w1 ⟨rfl,hb1⟩) | fail);go_ret2;exact dQ E.out rfl (by exact aa)
theorem MM (x:Fld) (hx:SzF x) {A:Option Addr} {c:Nat} (ht:Txs w (.slice A x.l.length c) x.l) (hc:x.l.length≤c):Calls Tryz.prog 120 #[dV x (.slice A x.l.length c)] w (rD x w):=by
 obtain ⟨k,n,s,l⟩:=x;obtain ⟨h1,h2,h3⟩:=hx
 by_cases k0:k=98
 ·subst k0;exact R6 n s l
 by_cases k1:k=117
 ·subst k1;exact Pq n s l
 by_cases k2:k=109
 ·subst k2;exact PS n s l h1
 by_cases k3:k=110
 ·subst k3;exact OG n s l ht hc h3
 by_cases k4:k=99
 ·subst k4;exact Rq n s l
 by_cases k5:k=101
 ·subst k5;exact OE n s l ht h2 h3
 exact M5 k n s l h1 k0 k1 k2 k3 k4 k5
end
section
variable {w : World}
theorem vV (b:Bool) (w:World):Calls Tryz.prog 123 #[.bool b] w (Says [if b=true then 1 else 0] w):=by
 cases b with
 | true =>
  have H:=hide (mq 1 w (by decide));go_enter Tryz.func123,Tryz.ntmps123;go_wp2_with (go_at_call 73;refine H.out.mono ?_;rintro e w1 ⟨rfl,hb1⟩);go_ret;exact ⟨rfl,hb1⟩
 | false =>
  have H:=hide (mq 0 w (by decide));go_enter Tryz.func123,Tryz.ntmps123;go_wp2_with (go_at_call 73;refine H.out.mono ?_;rintro e w1 ⟨rfl,hb1⟩);go_ret;exact ⟨rfl,hb1⟩
theorem nJ (s:ByteArray) (hs:s.size≤9223372036854775807) (w:World):Calls Tryz.prog 70 #[.string s] w (fun e w'=>e=.returned (.bool (bf s.data.toList))∧w'=w):=by
 go_enter Tryz.func70,Tryz.ntmps70;go_wp2_with fail
 go_loop [3] (fun i=>∃k:Nat,k≤s.size∧i=.int .i64 k∧Hid (∀c∈s.data.toList.take k,33≤c.toNat∧c.toNat≤126∧c≠44)) (fun i=>s.size - (intOf i).toNat)
 case atStart=>exact ⟨0,Nat.zero_le _,rfl,hide (by simp)⟩
 case round =>
  obtain ⟨k,hk,rfl,H⟩:=hrel
  by_cases hlt:k<s.size
  ·by_cases h1:s[k].toNat<33
   ·have h1':(s[k].toNat:Int)<33:=by omega
    have E:=hide (ko (bQ hlt) (.inl h1));go_wp2_with fail;go_ret;exact ⟨by rw [E.out];rfl,rfl⟩
   ·have h1':¬ (s[k].toNat:Int)<33:=by omega
    by_cases h2:126<s[k].toNat
    ·have h2':(126:Int)<s[k].toNat:=by omega
     have E:=hide (ko (bQ hlt) (.inr (.inl h2)));go_wp2_with fail;go_ret;exact ⟨by rw [E.out];rfl,rfl⟩
    ·have h2':¬ (126:Int)<s[k].toNat:=by omega
     by_cases h3:s[k]=44
     ·have h3':((s[k].toNat:Int) == 44)=true:=by rw [h3];rfl
      have E:=hide (ko (bQ hlt) (.inr (.inr h3)));clear h3;go_wp2_with fail;go_ret;exact ⟨by rw [E.out];rfl,rfl⟩
     ·have h9:s[k].toNat≠44:=fun e=>h3 (UInt8.toNat_inj.1 (by simpa using e))
      have h3':((s[k].toNat:Int) == 44)=false:=by rw [beq_eq_false_iff_ne];omega
      have H2:=hide (jI hlt H.out ⟨Nat.le_of_not_lt h1,Nat.le_of_not_lt h2,h3⟩);clear H h3 h9;go_wp2_with fail;go_round
      case rel=>exact ⟨k+1,hlt,by go_num,H2⟩
      case measure=>simp [intOf];omega
  ·have E:=hide (CP (jy hlt H.out))
   have hl2:s.data.toList.length=s.size:=rfl;rw [hl2] at E;clear H hl2
   by_cases h0:1≤s.size
   ·have h0':(1:Int)≤s.size:=by omega
    by_cases h64:s.size≤64
    ·have h64':(s.size:Int)≤64:=by omega
     go_wp2_with fail;go_ret;refine ⟨?_,rfl⟩;rw [E.out,decide_eq_true h0,decide_eq_true h64];rfl
    ·have h64':¬ (s.size:Int)≤64:=by omega
     go_wp2_with fail;go_ret;refine ⟨?_,rfl⟩;rw [E.out,decide_eq_true h0,decide_eq_false h64];rfl
   ·have h0':¬ (1:Int)≤s.size:=by omega
    go_wp2_with fail;go_ret;refine ⟨?_,rfl⟩;rw [E.out,decide_eq_false h0];rfl
theorem uD {A:Option Addr} {c:Nat} {ls:List (List UInt8)} (h:Txs w (.slice A ls.length c) ls) (hl:∀y∈ls,y.length≤9223372036854775807) :
  Calls Tryz.prog 27 #[.slice A ls.length c] w (fun e w'=>e=.returned (.int .i64 (bF ls))∧w'=w):=by
 obtain ⟨A',c',hv,hA⟩:=h.open_;obtain ⟨rfl,rfl⟩:A'=A∧c'=c:=by injection hv with e1 _ e2;exact ⟨e1.symm,e2.symm⟩
 clear hv h;go_enter Tryz.func27,Tryz.ntmps27
 by_cases h16:16<ls.length
 ·have h16':(16:Int)<ls.length:=by omega
  have E:=hide (lS h16);go_wp2_with fail;go_ret;exact ⟨by rw [E.out];rfl,rfl⟩
 ·have h16':¬ (16:Int)<ls.length:=by omega
  have Hl:=hide hl;clear hl;go_wp2_with fail
  go_loop [3] (fun i=>∃k:Nat,k≤ls.length∧i=.int .i64 k∧Hid (∀x∈ls.take k,bf x=true)) (fun i=>ls.length - (intOf i).toNat)
  case atStart=>exact ⟨0,Nat.zero_le _,rfl,hide (by simp)⟩
  case round =>
   obtain ⟨k,hk,rfl,H⟩:=hrel
   by_cases hlt:k<ls.length
   ·obtain ⟨ad,rfl,had,hc⟩:=hA k hlt
    have HR:=hide (nJ (bs ls[k]) (Hl.out _ (List.getElem_mem hlt)) w);rw [aU] at HR;have hmem:=List.getElem_mem hlt
    cases hr:bf ls[k] with
    | false =>
     rw [hr] at HR;have E:=hide (xA (l:=ls) (by omega) hmem hr);clear hmem hr;go_wp2_with (go_at_call 70;refine HR.out.mono ?_;rintro e w1 ⟨rfl,rfl⟩);go_ret;exact ⟨by rw [E.out];rfl,rfl⟩
    | true =>
     rw [hr] at HR
     have H2:=hide (show ∀x∈ls.take (k+1),bf x=true from by
      intro x hx;rw [List.take_succ_eq_append_getElem hlt] at hx;rcases List.mem_append.1 hx with hx | hx
      ·exact H.out x hx
      ·simp only [List.mem_singleton] at hx
       subst hx
       exact hr)
     clear hmem hr H;go_wp2_with (go_at_call 70;refine HR.out.mono ?_;rintro e w1 ⟨rfl,rfl⟩);go_round
     case rel=>exact ⟨k+1,hlt,by go_num,H2⟩
     case measure=>simp [intOf];omega
   ·have E:=hide (ut (l:=ls) (by omega) (fun x hx=>H.out x (by rw [List.take_of_length_le (by omega)];exact hx)))
    clear H hA;go_wp2_with fail;go_ret;exact ⟨by rw [E.out];rfl,rfl⟩
theorem Ec {l:List (List UInt8)} (h:l≠[]) (x:List UInt8):bv (l++[x])=bv l++44 :: x:=by
 induction l with
 | nil=>exact absurd rfl h
 | cons y l ih =>
  by_cases hn:l=[]
  ·subst hn
   rfl
  ·rw [List.cons_append,fe _ (by simp),ih hn,fe _ hn,List.append_assoc]
   rfl
def mV (l:List (List UInt8)) (i:Nat):List UInt8:=bv (l.take i)
theorem GJ {l:List (List UInt8)} (h:0<l.length):mV l 1=l[0]:=by
 unfold mV;rw [List.take_succ_eq_append_getElem h];simp [bv]
theorem CK {l:List (List UInt8)} {i:Nat} (h:i+1<l.length):mV l (i+1+1)=mV l (i+1)++[44]++l[i+1]:=by
 unfold mV;rw [List.take_succ_eq_append_getElem h,Ec]
 ·simp
 ·intro e
  have hl:(l.take (i+1)).length=i+1:=by rw [List.length_take];omega
  rw [e] at hl;simp at hl
theorem wK {A:Option Addr} {c:Nat} {ls:List (List UInt8)} (h:Txs w (.slice A ls.length c) ls) (h9:bF ls=0) :
  Calls Tryz.prog 29 #[.slice A ls.length c] w (fun e w'=>e=.returned (.string (bs (bv ls)))∧w'=w):=by
 obtain ⟨A',c',hv,hA⟩:=h.open_;obtain ⟨rfl,rfl⟩:A'=A∧c'=c:=by injection hv with e1 _ e2;exact ⟨e1.symm,e2.symm⟩
 obtain ⟨w1,w2⟩:=iK h9;have HS:=hide (fun i=>show (mV ls i).length≤16*65 from Nat.le_trans (jd (l:=ls.take i) (fun y hy=>(fH (w2 y (List.mem_of_mem_take hy))).2)) (Nat.mul_le_mul_right 65 (by rw [List.length_take];omega)));have HY:=hide (fun y hy=>(fH (w2 y hy)).2);clear hv h w2 h9;go_enter Tryz.func29,Tryz.ntmps29;go_wp2_with fail
 go_loop [3,4] (fun v i=>∃k:Nat,k≤ls.length∧i=.int .i64 k∧v=.string (bs (mV ls k))) (fun _ i=>ls.length - (intOf i).toNat)
 case atStart=>exact ⟨0,Nat.zero_le _,rfl,rfl⟩
 case round =>
  obtain ⟨k,hk,rfl,rfl⟩:=hrel
  by_cases hlt:k<ls.length
  ·obtain ⟨ad,rfl,had,hc⟩:=hA k hlt
   have hs1:=HS.out k;have hs2:=HY.out _ (List.getElem_mem hlt)
   cases k with
   | zero =>
    have E:=hide (GJ hlt);have E0:mV ls 0=[]:=rfl;rw [E0] at hs1 ⊢;generalize ls[0]=y at hc E hs2;have hc0:w.cell? ad=some (.string (bs y)):=hc;clear E0 hs1 hc;go_wp2_with fail;go_round
    case rel=>exact ⟨1,hlt,by go_num,by rw [E.out]⟩
    case measure=>simp [intOf];omega
   | succ k =>
    have E:=hide (CK hlt);generalize ls[k+1]=y at hc E hs2;have hpos:(0:Int)<((k+1:Nat):Int):=by omega
    have hc0:w.cell? ⟨ad.block,ad.off+(k+1),none⟩=some (.string (bs y)):=hc;clear hc;go_wp2_with fail;go_round
    case rel=>exact ⟨k+1+1,hlt,by go_num,by rw [E.out,show (⟨#[44]⟩:ByteArray)=bs [44] from rfl,EL,EL]⟩
    case measure=>simp [intOf];omega
  ·have hil:k=ls.length:=by omega
   subst hil;have E:mV ls ls.length=bv ls:=by unfold mV;rw [List.take_length]
   rw [E];clear E HS HY hA;go_wp2_with fail;go_ret;exact ⟨rfl,rfl⟩
theorem Bf (k:Nat) (n:Int) (s:ByteArray) (A:Option Addr) (m c:Nat) (b1 b2 b3 b4 bn bs' bl:Bool) (e1:((k:Int) == 98)=b1) (e2:((k:Int) == 117)=b2) (e3:((k:Int) == 110)=b3) (e4:((k:Int) == 101)=b4)
  (hn:(n == 0)=bn) (hs:((s.size:Int) == 0)=bs') (hl:((m:Int) == 0)=bl) :
  Calls Tryz.prog 122 #[.agg #[.int .u8 k,.int .i64 n,.string s,.slice A m c]] w (fun e w'=>e=.returned (.bool (if b1 || b2 then bs' && bl else if b3 || b4 then bn && bs' else bn && bl))∧Below w.heap.size w w'):=by
 cases b1
 ·cases b2
  ·cases b3
   ·cases b4
    ·cases bn <;> cases bl
     all_goals
      go_enter Tryz.func122,Tryz.ntmps122;go_wp2_with fail;go_ret;exact ⟨rfl,by exact aa⟩
    ·cases bn <;> cases bs'
     all_goals
      go_enter Tryz.func122,Tryz.ntmps122;go_wp2_with fail;go_ret;exact ⟨rfl,by exact aa⟩
   ·cases bn <;> cases bs'
    all_goals
     go_enter Tryz.func122,Tryz.ntmps122;go_wp2_with fail;go_ret;exact ⟨rfl,by exact aa⟩
  ·cases bs' <;> cases bl
   all_goals
    go_enter Tryz.func122,Tryz.ntmps122;go_wp2_with fail;go_ret;exact ⟨rfl,by exact aa⟩
 ·cases bs' <;> cases bl
  all_goals
   go_enter Tryz.func122,Tryz.ntmps122;go_wp2_with fail;go_ret;exact ⟨rfl,by exact aa⟩
theorem JB (x:Fld):bz x=(if decide (x.k=98) || decide (x.k=117) then x.s.isEmpty && x.l.isEmpty else if decide (x.k=110) || decide (x.k=101) then decide (x.n=0) && x.s.isEmpty else decide (x.n=0) && x.l.isEmpty):=by
 by_cases a:x.k=98 <;> by_cases b:x.k=117 <;> by_cases c:x.k=110 <;> by_cases d:x.k=101
 all_goals simp [bz,cntF,a,b,c,d]
theorem FL (k n:Nat):((k:Int) == (n:Int))=decide (k=n):=by
 rw [Bool.eq_iff_iff,beq_iff_eq,decide_eq_true_eq];omega
theorem fu (x:Fld) {A:Option Addr} {c:Nat} (w:World):Calls Tryz.prog 122 #[dV x (.slice A x.l.length c)] w (fun e w'=>e=.returned (.bool (bz x))∧Below w.heap.size w w'):=by
 have hemp:∀{α:Type} (l:List α),((l.length:Int) == 0)=l.isEmpty:=by
  intro α l
  cases l with
  | nil=>rfl
  | cons a b=>rw [List.isEmpty_cons,beq_eq_false_iff_ne,List.length_cons];omega
 have h:=Bf (w:=w) x.k x.n (bs x.s) A x.l.length c _ _ _ _ (decide (x.n=0)) x.s.isEmpty x.l.isEmpty (FL x.k 98) (FL x.k 117) (FL x.k 110) (FL x.k 101) (by rw [Bool.eq_iff_iff];simp) (hemp x.s) (hemp x.l);rw [JB];exact h
def eO (x:Fld):Nat × List UInt8:=if bz x=true then aG x else (3,[])
def kw (x:Fld) (w:World) (e:Ending) (w':World):Prop:=e=.returned (.tuple #[.string (bs (eO x).2),.int .i64 (eO x).1])∧Below w.heap.size w w'
theorem cZ {x:Fld} {w w':World} {e:Ending} {n:Nat} {l:List UInt8} (h:eO x=(n,l)) (he:e=.returned (.tuple #[.string (bs l),.int .i64 n])) (hb:Below w.heap.size w w'):kw x w e w':=by
 unfold kw;rw [h];exact ⟨he,hb⟩
theorem Np (x:Fld) (hp:bz x=false) {A:Option Addr} {c:Nat}:Calls Tryz.prog 75 #[dV x (.slice A x.l.length c)] w (kw x w):=by
 have E:=hide (show eO x=(3,[]) from by unfold eO;rw [hp];rfl);have HP:=hide (fun W=>fu x (A:=A) (c:=c) W);rw [hp] at HP;unfold dV at HP ⊢;go_enter Tryz.func75,Tryz.ntmps75;go_wp2_with (first | (go_at_call 122;refine (HP.out _).mono ?_;rintro e w1 ⟨rfl,hb1⟩) | fail);go_ret2;exact cZ E.out rfl (by exact aa)

theorem eY {x:Fld} {n:Nat} {l:List UInt8} (hp:bz x=true) (h:aG x=(n,l)):eO x=(n,l):=by
 unfold eO;rw [if_pos hp,h]
theorem mG {w w9:World} {t:TypeId} {a b c d:Value} (hb:Below (w.alloc (.cells #[a,b,c,d] t)).heap.size (w.alloc (.cells #[a,b,c,d] t)) w9) :
  w9.cell? ⟨w.heap.size,0,none⟩=some a∧w9.cell? ⟨w.heap.size,1,none⟩=some b∧w9.cell? ⟨w.heap.size,2,none⟩=some c∧w9.cell? ⟨w.heap.size,3,none⟩=some d:=by
 have h:=Blk.below (Blk.new w t #[a,b,c,d]) hb (Blk.new w t #[a,b,c,d]).lt;exact ⟨h.cell 0,h.cell 1,h.cell 2,h.cell 3⟩
theorem Jb (l:List (List UInt8)) {A:Option Addr} {c:Nat} (ht:Txs w (.slice A l.length c) l) (hn:l.length≤1000) (hy:∀y∈l,y.length≤100000) :
  Calls Tryz.prog 127 #[.slice A l.length c] w (fun e w'=>e=.returned (.tuple #[.string (bs (aG ⟨101,0,[],l⟩).2),.int .i64 (aG ⟨101,0,[],l⟩).1])∧Below w.heap.size w w'):=by
 by_cases h1:l.length % 2=1
 ·have E:=hide (show aG ⟨101,0,[],l⟩=(3,[]) from by simp [aG,h1])
  have e1:((Int.tmod (l.length:Int) 2) == 1)=true:=by
   rw [beq_iff_eq,Int.tmod_eq_emod_of_nonneg (by omega)];omega
  go_enter Tryz.func127,Tryz.ntmps127;go_wp2_with fail;go_ret2;exact ⟨by rw [E.out];rfl,by exact aa⟩
 ·have e1:((Int.tmod (l.length:Int) 2) == 1)=false:=by
   rw [beq_eq_false_iff_ne,Int.tmod_eq_emod_of_nonneg (by omega)];omega
  by_cases h2:16<l.length
  ·have E:=hide (show aG ⟨101,0,[],l⟩=(2,[]) from by simp [aG,h1,h2])
   have e2:(16:Int)<l.length:=by omega
   go_enter Tryz.func127,Tryz.ntmps127;go_wp2_with fail;go_ret2;exact ⟨by rw [E.out];rfl,by exact aa⟩
  ·have E:=hide (show aG ⟨101,0,[],l⟩=(0,kY l) from by simp [aG,h1,h2])
   have e2:¬ (16:Int)<l.length:=by omega
   have e3:Int.tdiv (l.length:Int) 2=((l.length / 2:Nat):Int):=by
    rw [Int.tdiv_eq_ediv_of_nonneg (by omega)];omega
   have HU:=hide (fun W=>lw (l.length / 2) W (by omega));have HT:=hide (fun W (i:Nat) (hi:i<l.length)=>iw (bs l[i]) W (by have:=hy _ (List.getElem_mem hi);rw [aR];omega));have HS:=hide (fun (i:Nat)=>show (jK l i).length≤1000*100004 from Nat.le_trans (sK (l:=l.take i) (fun y h=>hy y (List.mem_of_mem_take h))) (Nat.mul_le_mul_right 100004 (Nat.le_trans (by rw [List.length_take];omega:(l.take i).length≤l.length) hn)));have HX:=hide ht;have HY:=hide hy;clear ht hy;go_enter Tryz.func127,Tryz.ntmps127;go_wp2_with (first | (go_at_call 87;refine (HU.out _).mono ?_;rintro e w1 ⟨rfl,hb1⟩) | fail)
   go_loopw [4,5] (fun v vi wr=>∃i:Nat,v=.string (bs (q4 (l.length / 2)++jK l i))∧vi=.int .i64 i∧i≤l.length∧Below w.heap.size w wr) (fun _ vi _=>l.length - (intOf vi).toNat)
   case atStart=>exact ⟨0,by rw [show jK l 0=[] from rfl,List.append_nil],rfl,Nat.zero_le _,hb1⟩
   case round =>
    obtain ⟨i,rfl,rfl,hi,hb⟩:=hrel
    by_cases hlt:i<l.length
    ·have hii:(i:Int)<l.length:=by omega
     obtain ⟨A',c',hv,hA⟩:=(HX.out.below hb).open_;obtain ⟨rfl,rfl⟩:A'=A∧c'=c:=by injection hv with e1 _ e2;exact ⟨e1.symm,e2.symm⟩
     obtain ⟨ad,rfl,had,hc0⟩:=hA i hlt;have hfl:=hide (wQ hlt);have hT:=hide (HT.out wr i hlt);have hs1:=HS.out i;have hs2:=HY.out _ (List.getElem_mem hlt);have hsz:(q4 (l.length / 2)).length+(jK l i).length≤200000000:=by rw [bU];omega
     generalize hQ:q4 (l.length / 2)=Q at hsz;generalize l[i]=y at hc0 hfl hT hs2;rw [aU,aR] at hT;clear hv hA hQ hs1;go_wp2_with (first | (go_at_call 126;refine hT.out.mono ?_;rintro e w2 ⟨rfl,hb2⟩) | fail);refine ⟨⟨i+1,?_,by go_num,by omega,hb.trans (hb2.mono hb.size)⟩,by simp [intOf];omega⟩;rw [hfl.out];rfl
    ·have hil:i=l.length:=by omega
     subst hil;clear HS HT HU;have hE:q4 (l.length / 2)++jK l l.length=kY l:=by unfold jK;rw [List.take_length];rfl
     rw [hE];go_wp2_with fail;go_ret2;exact ⟨by rw [E.out];rfl,hb⟩
theorem Oy (n:Int) (s:List UInt8) (l:List (List UInt8)) (hp:bz ⟨98,n,s,l⟩=true) {A:Option Addr} {c:Nat}:Calls Tryz.prog 75 #[dV ⟨98,n,s,l⟩ (.slice A l.length c)] w (kw ⟨98,n,s,l⟩ w):=by
 have HP:=hide (fun W=>fu ⟨98,n,s,l⟩ (A:=A) (c:=c) W);rw [hp] at HP;unfold dV at HP ⊢;simp only at HP ⊢;have HT:=hide (fun W=>vV true W);have HF:=hide (fun W=>vV false W)
 by_cases h0:n=0
 ·subst h0
  have E:=hide (eY hp (show aG ⟨98,0,s,l⟩=(0,[0]) from rfl));clear hp;go_enter Tryz.func75,Tryz.ntmps75;go_wp2_with (first | (go_at_call 122;refine (HP.out _).mono ?_;rintro e w9 ⟨rfl,hb9⟩;obtain ⟨q0,q1,q2,q3⟩:=mG hb9) | (go_at_call 123;refine (HF.out _).mono ?_;rintro e w1 ⟨rfl,hb1⟩) | fail);go_ret2;exact cZ E.out rfl (by exact aa)
 ·by_cases h1:n=1
  ·subst h1
   have E:=hide (eY hp (show aG ⟨98,1,s,l⟩=(0,[1]) from rfl));clear hp;go_enter Tryz.func75,Tryz.ntmps75;go_wp2_with (first | (go_at_call 122;refine (HP.out _).mono ?_;rintro e w9 ⟨rfl,hb9⟩;obtain ⟨q0,q1,q2,q3⟩:=mG hb9) | (go_at_call 123;refine (HT.out _).mono ?_;rintro e w1 ⟨rfl,hb1⟩) | fail);go_ret2;exact cZ E.out rfl (by exact aa)
  ·have E:=hide (eY hp (show aG ⟨98,n,s,l⟩=(5,[]) from by simp [aG,h0,h1]))
   by_cases h2:n<0
   ·clear hp h0 h1
    go_enter Tryz.func75,Tryz.ntmps75;go_wp2_with (first | (go_at_call 122;refine (HP.out _).mono ?_;rintro e w9 ⟨rfl,hb9⟩;obtain ⟨q0,q1,q2,q3⟩:=mG hb9) | fail);go_ret2;exact cZ E.out rfl (by exact aa)
   ·have h3:1<n:=by omega
    clear hp h0 h1;go_enter Tryz.func75,Tryz.ntmps75;go_wp2_with (first | (go_at_call 122;refine (HP.out _).mono ?_;rintro e w9 ⟨rfl,hb9⟩;obtain ⟨q0,q1,q2,q3⟩:=mG hb9) | fail);go_ret2;exact cZ E.out rfl (by exact aa)
theorem MI (n:Int) (s:List UInt8) (l:List (List UInt8)) (hp:bz ⟨117,n,s,l⟩=true) {A:Option Addr} {c:Nat}:Calls Tryz.prog 75 #[dV ⟨117,n,s,l⟩ (.slice A l.length c)] w (kw ⟨117,n,s,l⟩ w):=by
 have HP:=hide (fun W=>fu ⟨117,n,s,l⟩ (A:=A) (c:=c) W);rw [hp] at HP;unfold dV at HP ⊢;simp only at HP ⊢
 by_cases h0:n<0
 ·have E:=hide (eY hp (show aG ⟨117,n,s,l⟩=(5,[]) from by
   simp only [aG]
   rw [if_neg (by decide),if_pos trivial,if_neg (by omega)]))
  clear hp;go_enter Tryz.func75,Tryz.ntmps75;go_wp2_with (first | (go_at_call 122;refine (HP.out _).mono ?_;rintro e w9 ⟨rfl,hb9⟩;obtain ⟨q0,q1,q2,q3⟩:=mG hb9) | fail);go_ret2;exact cZ E.out rfl (by exact aa)
 ·by_cases h1:4294967295<n
  ·have E:=hide (eY hp (show aG ⟨117,n,s,l⟩=(5,[]) from by
    simp only [aG]
    rw [if_neg (by decide),if_pos trivial,if_neg (by omega)]))
   clear hp;go_enter Tryz.func75,Tryz.ntmps75;go_wp2_with (first | (go_at_call 122;refine (HP.out _).mono ?_;rintro e w9 ⟨rfl,hb9⟩;obtain ⟨q0,q1,q2,q3⟩:=mG hb9) | fail)
   all_goals go_ret2
   all_goals exact cZ E.out rfl (by exact aa)
  ·obtain ⟨m,rfl⟩:∃m:Nat,n=m:=⟨n.toNat,by omega⟩
   have E:=hide (eY hp (show aG ⟨117,m,s,l⟩=(0,q4 m) from by
    simp only [aG];rw [if_neg (by decide),if_pos trivial,if_pos ⟨by omega,by omega⟩]
    simp))
   have HU:=hide (fun W=>lw m W (by omega));clear hp;go_enter Tryz.func75,Tryz.ntmps75;go_wp2_with (first | (go_at_call 122;refine (HP.out _).mono ?_;rintro e w9 ⟨rfl,hb9⟩;obtain ⟨q0,q1,q2,q3⟩:=mG hb9) | (go_at_call 87;refine (HU.out _).mono ?_;rintro e w1 ⟨rfl,hb1⟩) | fail);go_ret2;exact cZ E.out rfl (by exact aa)
theorem Ns {s:List UInt8} (h:dI s=true):((bs (bE s)).toList == (bs s).toList)=false:=by
 rw [aN,aN,beq_eq_false_iff_ne];intro e
 cases s with
 | nil=>cases h
 | cons c r =>
  have hc:c=0:=by simpa [dI] using h
  subst hc;have h1:bE (0 :: r)=bE r:=by unfold bE;rw [List.dropWhile_cons_of_pos (by rfl)]
  have h2:=congrArg List.length e;have h3:=jw r;rw [h1] at h2;simp at h2;omega
theorem Ew {s:List UInt8} (h:dI s=false):((bs (bE s)).toList == (bs s).toList)=true:=by
 rw [gY h];exact beq_self_eq_true _
theorem Oa (n:Int) (s:List UInt8) (l:List (List UInt8)) (hp:bz ⟨109,n,s,l⟩=true) {A:Option Addr} {c:Nat} (hs:s.length≤100000):Calls Tryz.prog 75 #[dV ⟨109,n,s,l⟩ (.slice A l.length c)] w (kw ⟨109,n,s,l⟩ w):=by
 have HP:=hide (fun W=>fu ⟨109,n,s,l⟩ (A:=A) (c:=c) W);rw [hp] at HP;unfold dV at HP ⊢;simp only at HP ⊢;have HW:=hide (fun W=>EU (bs s) W (by rw [aR];omega));have HL:=hide (fun W=>uk (bs s) W (by rw [aR];omega));rw [aU] at HW HL
 cases ha:dI s with
 | true =>
  have E:=hide (eY hp (show aG ⟨109,n,s,l⟩=(3,[]) from by simp [aG,ha]));have e1:=Ns ha;clear hp ha HW;generalize bE s=ps at HL e1;go_enter Tryz.func75,Tryz.ntmps75
  go_upto_region 13 with (first | (go_at_call 122;refine (HP.out _).mono ?_;rintro e w9 ⟨rfl,hb9⟩;obtain ⟨q0,q1,q2,q3⟩:=mG hb9;have hlt:=hb9.size) | fail)
  have hbx:Below w.heap.size w w9:=by exact aa
  have HQ:=hide (And.intro q2 (And.intro hlt hbx));have hdr:Below w9.heap.size w9 w9.drew:=(Below.refl _ _).drew;have hz:w.heap.size<w9.heap.size:=by simp at hlt;omega
  clear q0 q1 q2 q3 hlt hb9
  go_region_held3 (fun W=>W.cell? ⟨w.heap.size,2,none⟩=some (.string (bs s)))
   (exact (hdr.cell (p:=⟨w.heap.size,2,none⟩) hz).trans HQ.out.1)
   (first
    | (go_at_call 124;(with_reducible refine (HL.out _).mono ?_);(rintro e x4 ⟨rfl,hb4⟩);(have hd2:=hdr.trans (hb4.mono hdr.size));clear hdr;(have hdr:=hd2);clear hd2)
    | fail)
  all_goals go_wp2_with fail
  all_goals go_ret2
  all_goals exact cZ E.out rfl (HQ.out.2.2.trans (hdr.mono HQ.out.2.2.size))
 | false =>
  have E:=hide (eY hp (show aG ⟨109,n,s,l⟩=(0,fO s) from by simp [aG,ha]));have e1:=Ew ha;clear hp ha;generalize bE s=ps at HL e1;generalize fO s=ws at HW E;go_enter Tryz.func75,Tryz.ntmps75
  go_upto_region 13 with (first | (go_at_call 122;refine (HP.out _).mono ?_;rintro e w9 ⟨rfl,hb9⟩;obtain ⟨q0,q1,q2,q3⟩:=mG hb9;have hlt:=hb9.size) | fail)
  have hbx:Below w.heap.size w w9:=by exact aa
  have HQ:=hide (And.intro q2 (And.intro hlt hbx));have hdr:Below w9.heap.size w9 w9.drew:=(Below.refl _ _).drew;have hz:w.heap.size<w9.heap.size:=by simp at hlt;omega
  clear q0 q1 q2 q3 hlt hb9
  go_region_held3 (fun W=>W.cell? ⟨w.heap.size,2,none⟩=some (.string (bs s)))
   (exact (hdr.cell (p:=⟨w.heap.size,2,none⟩) hz).trans HQ.out.1)
   (first
    | (go_at_call 124;(with_reducible refine (HL.out _).mono ?_);(rintro e x4 ⟨rfl,hb4⟩);(have hd2:=hdr.trans (hb4.mono hdr.size));clear hdr;(have hdr:=hd2);clear hd2)
    | fail)
  all_goals (have q2:=(hdr.cell (p:=⟨w.heap.size,2,none⟩) hz).trans HQ.out.1)
  all_goals go_wp2_with (first | (go_at_call 125;refine (HW.out _).mono ?_;rintro e w1 ⟨rfl,hb1⟩) | fail)
  all_goals go_ret2
  all_goals exact cZ E.out rfl (HQ.out.2.2.trans ((hdr.trans (hb1.mono hdr.size)).mono HQ.out.2.2.size))
theorem L9 (n:Int) (s:List UInt8) (l:List (List UInt8)) (hp:bz ⟨110,n,s,l⟩=true) {A:Option Addr} {c:Nat} (ht:Txs w (.slice A l.length c) l) (hl:∀y∈l,y.length≤100000):Calls Tryz.prog 75 #[dV ⟨110,n,s,l⟩ (.slice A l.length c)] w (kw ⟨110,n,s,l⟩ w):=by
 have HP:=hide (fun W=>fu ⟨110,n,s,l⟩ (A:=A) (c:=c) W);rw [hp] at HP;unfold dV at HP ⊢;simp only at HP ⊢;have HK:=hide (fun W (hb:Below w.heap.size w W)=>uD (ht.below hb) (fun y hy=>by have:=hl y hy;omega));rcases iM l with h9 | h9 | h9
 ·have E:=hide (eY hp (show aG ⟨110,n,s,l⟩=(0,bC (bv l)) from by simp [aG,h9]))
  have HJ:=hide (fun W (hb:Below w.heap.size w W)=>wK (ht.below hb) h9);obtain ⟨w1,w2⟩:=iK h9;have hjl:=jd (l:=l) (fun y hy=>(fH (w2 y hy)).2);have HT:=hide (fun W=>iw (bs (bv l)) W (by rw [aR];omega));rw [h9] at HK;clear hp h9 w1 w2 hjl ht hl;go_enter Tryz.func75,Tryz.ntmps75
  go_wp2_with (first
   | (go_at_call 122;refine (HP.out _).mono ?_;rintro e w9 ⟨rfl,hb9⟩;obtain ⟨q0,q1,q2,q3⟩:=mG hb9)
   | (go_at_call 27;refine (HK.out _ (by exact aa)).mono ?_;rintro e w1 ⟨rfl,rfl⟩)
   | (go_at_call 29;refine (HJ.out _ (by exact aa)).mono ?_;rintro e w2 ⟨rfl,rfl⟩)
   | fail)
  refine (HT.out _).mono ?_;rintro e w3 ⟨rfl,hb3⟩;go_wp2_with fail;go_ret2;exact cZ E.out rfl (by exact aa)
 ·have E:=hide (eY hp (show aG ⟨110,n,s,l⟩=(2,[]) from by simp [aG,h9]))
  rw [h9] at HK;clear hp h9 ht hl;go_enter Tryz.func75,Tryz.ntmps75
  go_wp2_with (first
   | (go_at_call 122;refine (HP.out _).mono ?_;rintro e w9 ⟨rfl,hb9⟩;obtain ⟨q0,q1,q2,q3⟩:=mG hb9)
   | (go_at_call 27;refine (HK.out _ (by exact aa)).mono ?_;rintro e w1 ⟨rfl,rfl⟩)
   | fail)
  go_ret2;exact cZ E.out rfl (by exact aa)
 ·have E:=hide (eY hp (show aG ⟨110,n,s,l⟩=(3,[]) from by simp [aG,h9]))
  rw [h9] at HK;clear hp h9 ht hl;go_enter Tryz.func75,Tryz.ntmps75
  go_wp2_with (first
   | (go_at_call 122;refine (HP.out _).mono ?_;rintro e w9 ⟨rfl,hb9⟩;obtain ⟨q0,q1,q2,q3⟩:=mG hb9)
   | (go_at_call 27;refine (HK.out _ (by exact aa)).mono ?_;rintro e w1 ⟨rfl,rfl⟩)
   | fail)
  go_ret2;exact cZ E.out rfl (by exact aa)
theorem QF (n:Int) (s:List UInt8) (l:List (List UInt8)) (hp:bz ⟨99,n,s,l⟩=true) {A:Option Addr} {c:Nat}:Calls Tryz.prog 75 #[dV ⟨99,n,s,l⟩ (.slice A l.length c)] w (kw ⟨99,n,s,l⟩ w):=by
 have HP:=hide (fun W=>fu ⟨99,n,s,l⟩ (A:=A) (c:=c) W);rw [hp] at HP;unfold dV at HP ⊢;simp only at HP ⊢
 by_cases h0:s.length=16
 ·have E:=hide (eY hp (show aG ⟨99,n,s,l⟩=(0,s) from by simp [aG,h0]))
  have e1:((s.length:Int) == 16)=true:=by rw [beq_iff_eq];omega
  have e2:((s.length:Int) != 16)=false:=by simp [bne,e1]
  clear h0 hp;go_enter Tryz.func75,Tryz.ntmps75;go_wp2_with (first | (go_at_call 122;refine (HP.out _).mono ?_;rintro e w9 ⟨rfl,hb9⟩;obtain ⟨q0,q1,q2,q3⟩:=mG hb9) | fail);go_ret2;exact cZ E.out rfl (by exact aa)
 ·have E:=hide (eY hp (show aG ⟨99,n,s,l⟩=(3,[]) from by simp [aG,h0]))
  have e1:((s.length:Int) == 16)=false:=by rw [beq_eq_false_iff_ne];omega
  have e2:((s.length:Int) != 16)=true:=by simp [bne,e1]
  clear h0 hp;go_enter Tryz.func75,Tryz.ntmps75;go_wp2_with (first | (go_at_call 122;refine (HP.out _).mono ?_;rintro e w9 ⟨rfl,hb9⟩;obtain ⟨q0,q1,q2,q3⟩:=mG hb9) | fail);go_ret2;exact cZ E.out rfl (by exact aa)
theorem Mg (n:Int) (s:List UInt8) (l:List (List UInt8)) (hp:bz ⟨101,n,s,l⟩=true) {A:Option Addr} {c:Nat} (ht:Txs w (.slice A l.length c) l) (hn:l.length≤1000) (hl:∀y∈l,y.length≤100000):Calls Tryz.prog 75 #[dV ⟨101,n,s,l⟩ (.slice A l.length c)] w (kw ⟨101,n,s,l⟩ w):=by
 have HP:=hide (fun W=>fu ⟨101,n,s,l⟩ (A:=A) (c:=c) W);rw [hp] at HP;unfold dV at HP ⊢;simp only at HP ⊢;have HJ:=hide (fun W (hb:Below w.heap.size w W)=>Jb l (ht.below hb) hn hl)
 have HS:=hide (show eO ⟨101,n,s,l⟩=aG ⟨101,0,[],l⟩ from by
  unfold eO;rw [if_pos hp]
  simp [aG])
 generalize aG ⟨101,0,[],l⟩=pp at HJ HS;clear hp ht hl;go_enter Tryz.func75,Tryz.ntmps75
 go_wp2_with (first
  | (go_at_call 122;refine (HP.out _).mono ?_;rintro e w9 ⟨rfl,hb9⟩;obtain ⟨q0,q1,q2,q3⟩:=mG hb9)
  | (go_at_call 127;refine (HJ.out _ (by exact aa)).mono ?_;rintro e w1 ⟨rfl,hb1⟩) | fail)
 go_ret2;exact cZ HS.out rfl (by exact aa)
theorem JF (k:Nat) (n:Int) (s:List UInt8) (l:List (List UInt8)) (hp:bz ⟨k,n,s,l⟩=true) {A:Option Addr} {c:Nat} (hs:s.length≤100000) (h0:¬ k=98) (h1:¬ k=117) (h2:¬ k=109) (h3:¬ k=110) (h4:¬ k=99) (h5:¬ k=101) :
  Calls Tryz.prog 75 #[dV ⟨k,n,s,l⟩ (.slice A l.length c)] w (kw ⟨k,n,s,l⟩ w):=by
 have HP:=hide (fun W=>fu ⟨k,n,s,l⟩ (A:=A) (c:=c) W);rw [hp] at HP;unfold dV at HP ⊢;simp only at HP ⊢;have HT:=hide (fun W=>iw (bs s) W (by rw [aR];omega));have E:=hide (eY hp (show aG ⟨k,n,s,l⟩=(0,bC s) from by simp [aG,h0,h1,h2,h3,h4,h5]));have e0:((k:Int) == 98)=false:=iX h0;have e1:((k:Int) == 117)=false:=iX h1;have e2:((k:Int) == 109)=false:=iX h2;have e3:((k:Int) == 110)=false:=iX h3;have e4:((k:Int) == 99)=false:=iX h4;have e5:((k:Int) == 101)=false:=iX h5;clear h0 h1 h2 h3 h4 h5 hp;go_enter Tryz.func75,Tryz.ntmps75
 go_wp2_with (first
  | (go_at_call 122;refine (HP.out _).mono ?_;rintro e w9 ⟨rfl,hb9⟩;obtain ⟨q0,q1,q2,q3⟩:=mG hb9)
  | (go_at_call 126;refine (HT.out _).mono ?_;rintro e w1 ⟨rfl,hb1⟩) | fail)
 go_ret2;exact cZ E.out rfl (by exact aa)
theorem NW (x:Fld) (hx:SzF x) {A:Option Addr} {c:Nat} (ht:Txs w (.slice A x.l.length c) x.l):Calls Tryz.prog 75 #[dV x (.slice A x.l.length c)] w (kw x w):=by
 cases hp:bz x with
 | false=>exact Np x hp
 | true =>
  obtain ⟨k,n,s,l⟩:=x;obtain ⟨h1,h2,h3⟩:=hx
  by_cases k0:k=98
  ·subst k0;exact Oy n s l hp
  by_cases k1:k=117
  ·subst k1;exact MI n s l hp
  by_cases k2:k=109
  ·subst k2;exact Oa n s l hp h1
  by_cases k3:k=110
  ·subst k3;exact L9 n s l hp ht h3
  by_cases k4:k=99
  ·subst k4;exact QF n s l hp
  by_cases k5:k=101
  ·subst k5;exact Mg n s l hp ht h2 h3
  exact JF k n s l hp h1 k0 k1 k2 k3 k4 k5
end
end Go.Proofs.YtnhekaepgpbijaaGreatDoor
