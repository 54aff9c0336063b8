/-
  Several of my texts in one: PutM, PutN, RPut.
-/
import Derived.Test.YtihfpbaaiedfbaaGreatDoorKMsgG
import Derived.Test.YtihfpbaaiedfbaaGreatDoorKCfAG
import Derived.Test.YtihfpbaaiedfbaaGreatDoorKChnG
import Derived.Deep.RegionHeld3
import Derived.Deep.DeepCutAuto
set_option linter.unusedVariables false
set_option linter.unusedSimpArgs false
set_option maxHeartbeats 40000000
set_option maxRecDepth 100000
namespace Go.Proofs.YtihfpbaaiedfbaaGreatDoor
open Go.RowKit Go.ChangeShapes Go.WideShapes Go.Sort
def fldV (x:Fld) (lv:Value):Value:=.agg #[.int .u8 x.k,.int .i64 x.n,.string (bs x.s),lv]
structure SzF (x:Fld):Prop where
 s:x.s.length≤100000
 n:x.l.length≤1000
 l:∀y∈x.l,y.length≤100000
section
variable {w : World}
theorem wByte_any (n:Nat) (w:World) (h1:n<256):Calls Tryz.prog 126 #[.int .u8 n] w (Says [UInt8.ofNat n] w):=by
 go_enter Tryz.func126,Tryz.ntmps126
 go_wp2
 go_ret
 exact ⟨rfl,by exact bel_by⟩
theorem wBool_any (b:Bool) (w:World):Calls Tryz.prog 198 #[.bool b] w (Says [if b=true then 1 else 0] w):=by
 cases b with
 | true =>
  have H:=hide (wByte_any 1 w (by decide))
  go_enter Tryz.func198,Tryz.ntmps198
  go_wp2_with (go_at_call 126;refine H.out.mono ?_;rintro e w1 ⟨rfl,hb1⟩)
  go_ret
  exact ⟨rfl,hb1⟩
 | false =>
  have H:=hide (wByte_any 0 w (by decide))
  go_enter Tryz.func198,Tryz.ntmps198
  go_wp2_with (go_at_call 126;refine H.out.mono ?_;rintro e w1 ⟨rfl,hb1⟩)
  go_ret
  exact ⟨rfl,hb1⟩
theorem i_ne {k:Nat} {n:Nat} (h:¬ k=n):((k:Int) == (n:Int))=false:=by rw [beq_eq_false_iff_ne];omega
theorem i_eq {k:Nat} {n:Nat} (h:k=n):((k:Int) == (n:Int))=true:=by rw [h];simp
theorem counts_any (k:Nat) (w:World):Calls Tryz.prog 197 #[.int .u8 k] w (fun e w'=>e=.returned (.int .i64 (cntF k))∧w'=w):=by
 by_cases h1:k=98
 ·subst h1
  go_enter Tryz.func197,Tryz.ntmps197
  go_wp2
  go_ret
  exact ⟨rfl,rfl⟩
 ·by_cases h2:k=117
  ·subst h2
   go_enter Tryz.func197,Tryz.ntmps197
   go_wp2
   go_ret
   exact ⟨rfl,rfl⟩
  ·by_cases h3:k=110
   ·subst h3
    go_enter Tryz.func197,Tryz.ntmps197
    go_wp2
    go_ret
    exact ⟨rfl,rfl⟩
   ·by_cases h4:k=101
    ·subst h4
     go_enter Tryz.func197,Tryz.ntmps197
     go_wp2
     go_ret
     exact ⟨rfl,rfl⟩
    ·have E:=hide (show cntF k=1 from by unfold cntF;rw [if_neg (by omega),if_neg (by omega)])
     have e1:((k:Int) == 98)=false:=i_ne h1
     have e2:((k:Int) == 117)=false:=i_ne h2
     have e3:((k:Int) == 110)=false:=i_ne h3
     have e4:((k:Int) == 101)=false:=i_ne h4
     go_enter Tryz.func197,Tryz.ntmps197
     go_wp2
     go_ret
     exact ⟨by rw [E.out];rfl,rfl⟩
theorem plain_core (k:Nat) (n:Int) (s:ByteArray) (A:Option Addr) (m c cn:Nat) (hcn:cn=0∨cn=1∨cn=2) (HC:Hid (∀W,Calls Tryz.prog 197 #[.int .u8 k] W (fun e w'=>e=.returned (.int .i64 cn)∧w'=W))) (bn b2 b3:Bool)
  (hn:(n == 0)=bn) (hs:(s.toList == [])=b2) (hl:((m:Int) == 0)=b3) :
  Calls Tryz.prog 127 #[.agg #[.int .u8 k,.int .i64 n,.string s,.slice A m c]] w (fun e w'=>e=.returned (.bool ((decide (cn=0) || bn) && ((decide (cn=1) || b2) && (decide (cn=2) || b3))))∧Below w.heap.size w w'):=by
 rcases hcn with rfl | rfl | rfl <;> cases bn <;> cases b2 <;> cases b3
 all_goals
  go_enter Tryz.func127,Tryz.ntmps127
  go_wp2_with (first | (go_at_call 197;refine (HC.out _).mono ?_;rintro e w1 ⟨rfl,rfl⟩) | fail)
  go_ret
  exact ⟨rfl,by exact bel_by⟩
theorem cnt_cases (k:Nat):cntF k=0∨cntF k=1∨cntF k=2:=by
 unfold cntF
 split
 ·exact .inl rfl
 ·split
  ·exact .inr (.inr rfl)
  ·exact .inr (.inl rfl)
theorem plain_any (x:Fld) {A:Option Addr} {c:Nat} (w:World):Calls Tryz.prog 127 #[fldV x (.slice A x.l.length c)] w (fun e w'=>e=.returned (.bool (plainF x))∧Below w.heap.size w w'):=by
 have h:=plain_core (w:=w) x.k x.n (bs x.s) A x.l.length c (cntF x.k) (cnt_cases _) (hide (fun W=>counts_any x.k W)) (decide (x.n=0)) x.s.isEmpty x.l.isEmpty (by
  rw [Bool.eq_iff_iff];simp) (by rw [bs_toList];cases x.s <;> rfl) (by
  cases x.l with
  | nil=>rfl
  | cons a b=>rw [List.isEmpty_cons,beq_eq_false_iff_ne,List.length_cons];omega)
 exact h
def prefT (l:List (List UInt8)) (i:Nat):List UInt8:=((l.take i).map textL).flatten
theorem flat_succ {l:List (List UInt8)} {i:Nat} (h:i<l.length):prefT l (i+1)=prefT l i++textL l[i]:=by
 unfold prefT
 rw [List.take_succ_eq_append_getElem h,List.map_append,List.flatten_append,List.map_singleton,List.flatten_singleton]
theorem flat_len {l:List (List UInt8)} (h:∀y∈l,y.length≤100000):(l.map textL).flatten.length≤l.length*100004:=by
 induction l with
 | nil=>simp
 | cons x l ih =>
  have h1:=h x (by simp)
  have h2:=ih (fun y hy=>h y (by simp [hy]))
  simp only [List.map_cons,List.flatten_cons,List.length_append,List.length_cons,textL,q4_len]
  omega
theorem list_any (l:List (List UInt8)) {A:Option Addr} {c:Nat} (ht:Txs w (.slice A l.length c) l) (hn:l.length≤1000) (hy:∀y∈l,y.length≤100000) :
  Calls Tryz.prog 203 #[.slice A l.length c] w (fun e w'=>e=.returned (.tuple #[.string (bs (putF ⟨101,0,[],l⟩).2),.int .i64 (putF ⟨101,0,[],l⟩).1])∧Below w.heap.size w w'):=by
 by_cases h1:l.length % 2=1
 ·have E:=hide (show putF ⟨101,0,[],l⟩=(3,[]) from by simp [putF,h1])
  have e1:((Int.tmod (l.length:Int) 2) == 0)=false:=by
   rw [beq_eq_false_iff_ne,Int.tmod_eq_emod_of_nonneg (by omega)]
   omega
  go_enter Tryz.func203,Tryz.ntmps203
  go_wp2_with fail
  go_ret2
  exact ⟨by rw [E.out];rfl,by exact bel_by⟩
 ·have e1:((Int.tmod (l.length:Int) 2) == 0)=true:=by
   rw [beq_iff_eq,Int.tmod_eq_emod_of_nonneg (by omega)]
   omega
  by_cases h2:16<l.length
  ·have E:=hide (show putF ⟨101,0,[],l⟩=(2,[]) from by simp [putF,h1,h2])
   have e2:(16:Int)<l.length:=by omega
   go_enter Tryz.func203,Tryz.ntmps203
   go_wp2_with fail
   go_ret2
   exact ⟨by rw [E.out];rfl,by exact bel_by⟩
  ·have E:=hide (show putF ⟨101,0,[],l⟩=(0,extsL l) from by simp [putF,h1,h2])
   have e2:¬ (16:Int)<l.length:=by omega
   have e3:Int.tdiv (l.length:Int) 2=((l.length / 2:Nat):Int):=by
    rw [Int.tdiv_eq_ediv_of_nonneg (by omega)]
    omega
   have e4:IntKind.u32.wrap ((l.length / 2:Nat):Int)=((l.length / 2:Nat):Int):=by
    simp only [IntKind.wrap,IntKind.bits,IntKind.signed]
    simp
    omega
   have HU:=hide (fun W=>wNum_any (l.length / 2) W (by omega))
   have HT:=hide (fun W (i:Nat) (hi:i<l.length)=>wText_bs l[i] W (by have:=hy _ (List.getElem_mem hi);omega))
   have HS:=hide (fun (i:Nat)=>show (prefT l i).length≤1000*100004 from Nat.le_trans (flat_len (l:=l.take i) (fun y h=>hy y (List.mem_of_mem_take h))) (Nat.mul_le_mul_right 100004 (Nat.le_trans (by rw [List.length_take];omega:(l.take i).length≤l.length) hn)))
   have HX:=hide ht
   have HY:=hide hy
   clear ht hy
   go_enter Tryz.func203,Tryz.ntmps203
   go_wp2_with (first | (go_at_call 199;refine (HU.out _).mono ?_;rintro e w1 ⟨rfl,hb1⟩) | fail)
   go_loopw [4,23] (fun v vi wr=>∃i:Nat,v=.string (bs (q4 (l.length / 2)++prefT l i))∧vi=.int .i64 i∧i≤l.length∧Below w.heap.size w wr) (fun _ vi _=>l.length - (intOf vi).toNat)
   case atStart=>exact ⟨0,by rw [show prefT l 0=[] from rfl,List.append_nil],rfl,Nat.zero_le _,hb1⟩
   case round =>
    obtain ⟨i,rfl,rfl,hi,hb⟩:=hrel
    by_cases hlt:i<l.length
    ·have hii:(i:Int)<l.length:=by omega
     obtain ⟨A',c',hv,hA⟩:=(HX.out.below hb).open_
     obtain ⟨rfl,rfl⟩:A'=A∧c'=c:=by injection hv with e1 _ e2;exact ⟨e1.symm,e2.symm⟩
     obtain ⟨ad,rfl,had,hc0⟩:=hA i hlt
     have hfl:=hide (flat_succ hlt)
     have hT:=hide (HT.out wr i hlt)
     have hs1:=HS.out i
     have hs2:=HY.out _ (List.getElem_mem hlt)
     have hsz:(q4 (l.length / 2)).length+(prefT l i).length≤200000000:=by rw [q4_len];omega
     generalize hQ:q4 (l.length / 2)=Q at hsz
     generalize l[i]=y at hc0 hfl hT hs2
     clear hv hA hQ hs1
     go_wp2_with (first | (go_at_call 202;refine hT.out.mono ?_;rintro e w2 ⟨rfl,hb2⟩) | fail)
     refine ⟨⟨i+1,?_,by go_num,by omega,hb.trans (hb2.mono hb.size)⟩,by simp [intOf];omega⟩
     rw [hfl.out]
     rfl
    ·have hil:i=l.length:=by omega
     subst hil
     clear HS HT HU
     have hE:q4 (l.length / 2)++prefT l l.length=extsL l:=by unfold prefT;rw [List.take_length];rfl
     rw [hE]
     go_wp2_with fail
     go_ret2
     exact ⟨by rw [E.out];rfl,hb⟩
end
def PutP (x:Fld) (w:World) (e:Ending) (w':World):Prop:=e=.returned (.tuple #[.string (bs (putF x).2),.int .i64 (putF x).1])∧Below w.heap.size w w'
theorem putP_of {x:Fld} {w w':World} {e:Ending} {n:Nat} {l:List UInt8} (h:putF x=(n,l)) (he:e=.returned (.tuple #[.string (bs l),.int .i64 n])) (hb:Below w.heap.size w w'):PutP x w e w':=by
 unfold PutP
 rw [h]
 exact ⟨he,hb⟩
section
variable {w : World}
theorem put_98 (n:Int) (s:List UInt8) (l:List (List UInt8)) {A:Option Addr} {c:Nat}:Calls Tryz.prog 128 #[fldV ⟨98,n,s,l⟩ (.slice A l.length c)] w (PutP ⟨98,n,s,l⟩ w):=by
 unfold fldV
 simp only
 have HT:=hide (fun W=>wBool_any true W)
 have HF:=hide (fun W=>wBool_any false W)
 by_cases h0:n=0
 ·subst h0
  have E:=hide (show putF ⟨98,0,s,l⟩=(0,[0]) from rfl)
  go_enter Tryz.func128,Tryz.ntmps128
  go_wp2_with (first | (go_at_call 198;refine (HF.out _).mono ?_;rintro e w1 ⟨rfl,hb1⟩) | fail)
  go_ret2
  exact putP_of E.out rfl (by exact bel_by)
 ·by_cases h1:n=1
  ·subst h1
   have E:=hide (show putF ⟨98,1,s,l⟩=(0,[1]) from rfl)
   go_enter Tryz.func128,Tryz.ntmps128
   go_wp2_with (first | (go_at_call 198;refine (HT.out _).mono ?_;rintro e w1 ⟨rfl,hb1⟩) | fail)
   go_ret2
   exact putP_of E.out rfl (by exact bel_by)
  ·have E:=hide (show putF ⟨98,n,s,l⟩=(5,[]) from by simp [putF,h0,h1])
   have e0:(n == 0)=false:=by rw [beq_eq_false_iff_ne];exact h0
   have e1:(n == 1)=false:=by rw [beq_eq_false_iff_ne];exact h1
   have e2:(n != 0)=true:=by simp [bne,e0]
   have e3:(n != 1)=true:=by simp [bne,e1]
   clear h0 h1
   go_enter Tryz.func128,Tryz.ntmps128
   go_wp2_with fail
   go_ret2
   exact putP_of E.out rfl (by exact bel_by)
theorem put_117 (n:Int) (s:List UInt8) (l:List (List UInt8)) {A:Option Addr} {c:Nat}:Calls Tryz.prog 128 #[fldV ⟨117,n,s,l⟩ (.slice A l.length c)] w (PutP ⟨117,n,s,l⟩ w):=by
 unfold fldV
 simp only
 by_cases h0:n<0
 ·have E:=hide (show putF ⟨117,n,s,l⟩=(5,[]) from by
   simp only [putF]
   rw [if_neg (by decide),if_pos trivial,if_neg (by omega)])
  go_enter Tryz.func128,Tryz.ntmps128
  go_wp2_with fail
  go_ret2
  exact putP_of E.out rfl (by exact bel_by)
 ·by_cases h1:4294967295<n
  ·have E:=hide (show putF ⟨117,n,s,l⟩=(5,[]) from by
    simp only [putF]
    rw [if_neg (by decide),if_pos trivial,if_neg (by omega)])
   go_enter Tryz.func128,Tryz.ntmps128
   go_wp2_with fail
   go_ret2
   exact putP_of E.out rfl (by exact bel_by)
  ·obtain ⟨m,rfl⟩:∃m:Nat,n=m:=⟨n.toNat,by omega⟩
   have E:=hide (show putF ⟨117,m,s,l⟩=(0,q4 m) from by
    simp only [putF]
    rw [if_neg (by decide),if_pos trivial,if_pos ⟨by omega,by omega⟩]
    simp)
   have HU:=hide (fun W=>wNum_any m W (by omega))
   have hw:IntKind.u32.wrap (m:Int)=m:=by
    simp only [IntKind.wrap,IntKind.bits,IntKind.signed]
    simp
    omega
   go_enter Tryz.func128,Tryz.ntmps128
   go_wp2_with (first | (go_at_call 199;refine (HU.out _).mono ?_;rintro e w1 ⟨rfl,hb1⟩) | fail)
   go_ret2
   exact putP_of E.out rfl (by exact bel_by)
theorem put_109 (n:Int) (s:List UInt8) (l:List (List UInt8)) {A:Option Addr} {c:Nat} (hs:s.length≤100000):Calls Tryz.prog 128 #[fldV ⟨109,n,s,l⟩ (.slice A l.length c)] w (PutP ⟨109,n,s,l⟩ w):=by
 unfold fldV
 simp only
 have HW:=hide (fun W=>wWhole_any (bs s) W (by rw [bs_size];omega))
 rw [bs_data] at HW
 cases s with
 | nil =>
  have E:=hide (show putF ⟨109,n,[],l⟩=(0,wholeL []) from rfl)
  have e1:(bs []).toList.isEmpty=true:=by rw [bs_toList];rfl
  have e2:((bs []).toList == [])=true:=by rw [bs_toList];rfl
  go_enter Tryz.func128,Tryz.ntmps128
  go_wp2_with (first | (go_at_call 200;refine (HW.out _).mono ?_;rintro e w1 ⟨rfl,hb1⟩) | fail)
  go_ret2
  exact putP_of E.out rfl (by exact bel_by)
 | cons d r =>
  have e1:=isE_cons d r
  have e2:((bs (d :: r)).toList == [])=false:=by rw [bs_toList];rfl
  have hpos:0<(bs (d :: r)).size:=by rw [bs_size];simp
  have g0:(bs (d :: r))[0]=d:=rfl
  by_cases h0:d=0
  ·subst h0
   have E:=hide (show putF ⟨109,n,0 :: r,l⟩=(3,[]) from by simp [putF,aheadL])
   have e3:(((bs (0 :: r))[0].toNat:Int) == 0)=true:=by rw [g0];rfl
   clear g0
   go_enter Tryz.func128,Tryz.ntmps128
   go_wp2_with fail
   go_ret2
   exact putP_of E.out rfl (by exact bel_by)
  ·have E:=hide (show putF ⟨109,n,d :: r,l⟩=(0,wholeL (d :: r)) from by simp [putF,aheadL,h0])
   have h9:d.toNat≠0:=fun e=>h0 (UInt8.toNat_inj.1 (by simpa using e))
   have e3:(((bs (d :: r))[0].toNat:Int) == 0)=false:=by rw [g0,beq_eq_false_iff_ne];omega
   clear g0 h0 h9
   go_enter Tryz.func128,Tryz.ntmps128
   go_wp2_with (first | (go_at_call 200;refine (HW.out _).mono ?_;rintro e w1 ⟨rfl,hb1⟩) | fail)
   go_ret2
   exact putP_of E.out rfl (by exact bel_by)
theorem put_110 (n:Int) (s:List UInt8) (l:List (List UInt8)) {A:Option Addr} {c:Nat} (ht:Txs w (.slice A l.length c) l) (hc:l.length≤c) (hl:∀y∈l,y.length≤100000):Calls Tryz.prog 128 #[fldV ⟨110,n,s,l⟩ (.slice A l.length c)] w (PutP ⟨110,n,s,l⟩ w):=by
 unfold fldV
 simp only
 have HJ:=hide (fun W (hb:Below w.heap.size w W)=>njoin_any (ht.below hb) hc (fun y hy=>by have:=hl y hy;omega))
 rcases wrong_cases l with h9 | h9 | h9
 ·have E:=hide (show putF ⟨110,n,s,l⟩=(0,textL (joinC l)) from by simp [putF,h9])
  have hj:joinN l=joinC l:=by unfold joinN;rw [if_pos h9]
  obtain ⟨w1,w2⟩:=wrong_ok h9
  have hjl:=joinC_len (l:=l) (fun y hy=>(right_len (w2 y hy)).2)
  have HT:=hide (fun W=>wText_bs (joinC l) W (by omega))
  rw [h9,hj] at HJ
  clear h9 hj w1 w2 hjl ht hl
  go_enter Tryz.func128,Tryz.ntmps128
  go_wp2_with (first | (go_at_call 201;refine (HJ.out _ (by exact bel_by)).mono ?_;rintro e w1 ⟨rfl,hb1⟩) | fail)
  refine (HT.out _).mono ?_
  rintro e w2 ⟨rfl,hb2⟩
  go_wp2_with fail
  go_ret2
  exact putP_of E.out rfl (by exact bel_by)
 ·have E:=hide (show putF ⟨110,n,s,l⟩=(2,[]) from by simp [putF,h9])
  have hj:joinN l=[]:=by unfold joinN;rw [if_neg (by omega)]
  rw [h9,hj] at HJ
  clear h9 hj ht hl
  go_enter Tryz.func128,Tryz.ntmps128
  go_wp2_with (first | (go_at_call 201;refine (HJ.out _ (by exact bel_by)).mono ?_;rintro e w1 ⟨rfl,hb1⟩) | fail)
  go_ret2
  exact putP_of E.out rfl (by exact bel_by)
 ·have E:=hide (show putF ⟨110,n,s,l⟩=(3,[]) from by simp [putF,h9])
  have hj:joinN l=[]:=by unfold joinN;rw [if_neg (by omega)]
  rw [h9,hj] at HJ
  clear h9 hj ht hl
  go_enter Tryz.func128,Tryz.ntmps128
  go_wp2_with (first | (go_at_call 201;refine (HJ.out _ (by exact bel_by)).mono ?_;rintro e w1 ⟨rfl,hb1⟩) | fail)
  go_ret2
  exact putP_of E.out rfl (by exact bel_by)
theorem put_99 (n:Int) (s:List UInt8) (l:List (List UInt8)) {A:Option Addr} {c:Nat}:Calls Tryz.prog 128 #[fldV ⟨99,n,s,l⟩ (.slice A l.length c)] w (PutP ⟨99,n,s,l⟩ w):=by
 unfold fldV
 simp only
 have hsz:(bs s).size=s.length:=rfl
 by_cases h0:s.length=16
 ·have E:=hide (show putF ⟨99,n,s,l⟩=(0,s) from by simp [putF,h0])
  have e1:((s.length:Int) == 16)=true:=by rw [beq_iff_eq];omega
  have e2:((s.length:Int) != 16)=false:=by simp [bne,e1]
  clear h0
  go_enter Tryz.func128,Tryz.ntmps128
  go_wp2_with fail
  go_ret2
  exact putP_of E.out rfl (by exact bel_by)
 ·have E:=hide (show putF ⟨99,n,s,l⟩=(3,[]) from by simp [putF,h0])
  have e1:((s.length:Int) == 16)=false:=by rw [beq_eq_false_iff_ne];omega
  have e2:((s.length:Int) != 16)=true:=by simp [bne,e1]
  clear h0
  go_enter Tryz.func128,Tryz.ntmps128
  go_wp2_with fail
  go_ret2
  exact putP_of E.out rfl (by exact bel_by)
theorem put_101 (n:Int) (s:List UInt8) (l:List (List UInt8)) {A:Option Addr} {c:Nat} (ht:Txs w (.slice A l.length c) l) (hn:l.length≤1000) (hl:∀y∈l,y.length≤100000):Calls Tryz.prog 128 #[fldV ⟨101,n,s,l⟩ (.slice A l.length c)] w (PutP ⟨101,n,s,l⟩ w):=by
 unfold fldV
 simp only
 have HJ:=hide (fun W (hb:Below w.heap.size w W)=>list_any l (ht.below hb) hn hl)
 have hsame:putF ⟨101,n,s,l⟩=putF ⟨101,0,[],l⟩:=by simp [putF]
 have HS:=hide hsame
 generalize putF ⟨101,0,[],l⟩=pp at HJ HS
 clear hsame ht hl
 go_enter Tryz.func128,Tryz.ntmps128
 go_wp2_with (first | (go_at_call 203;refine (HJ.out _ (by exact bel_by)).mono ?_;rintro e w1 ⟨rfl,hb1⟩) | fail)
 go_ret2
 exact putP_of HS.out rfl (by exact bel_by)
theorem put_else (k:Nat) (n:Int) (s:List UInt8) (l:List (List UInt8)) {A:Option Addr} {c:Nat} (hs:s.length≤100000) (h0:¬ k=98) (h1:¬ k=117) (h2:¬ k=109) (h3:¬ k=110) (h4:¬ k=99) (h5:¬ k=101) :
  Calls Tryz.prog 128 #[fldV ⟨k,n,s,l⟩ (.slice A l.length c)] w (PutP ⟨k,n,s,l⟩ w):=by
 unfold fldV
 simp only
 have HT:=hide (fun W=>wText_bs s W (by omega))
 have E:=hide (show putF ⟨k,n,s,l⟩=(0,textL s) from by simp [putF,h0,h1,h2,h3,h4,h5])
 have e0:((k:Int) == 98)=false:=i_ne h0
 have e1:((k:Int) == 117)=false:=i_ne h1
 have e2:((k:Int) == 109)=false:=i_ne h2
 have e3:((k:Int) == 110)=false:=i_ne h3
 have e4:((k:Int) == 99)=false:=i_ne h4
 have e5:((k:Int) == 101)=false:=i_ne h5
 clear h0 h1 h2 h3 h4 h5
 go_enter Tryz.func128,Tryz.ntmps128
 go_wp2_with (first | (go_at_call 202;refine (HT.out _).mono ?_;rintro e w1 ⟨rfl,hb1⟩) | fail)
 go_ret2
 exact putP_of E.out rfl (by exact bel_by)
theorem mput_any (x:Fld) (hx:SzF x) {A:Option Addr} {c:Nat} (ht:Txs w (.slice A x.l.length c) x.l) (hc:x.l.length≤c):Calls Tryz.prog 128 #[fldV x (.slice A x.l.length c)] w (PutP x w):=by
 obtain ⟨k,n,s,l⟩:=x
 obtain ⟨h1,h2,h3⟩:=hx
 by_cases k0:k=98
 ·subst k0;exact put_98 n s l
 by_cases k1:k=117
 ·subst k1;exact put_117 n s l
 by_cases k2:k=109
 ·subst k2;exact put_109 n s l h1
 by_cases k3:k=110
 ·subst k3;exact put_110 n s l ht hc h3
 by_cases k4:k=99
 ·subst k4;exact put_99 n s l
 by_cases k5:k=101
 ·subst k5;exact put_101 n s l ht h2 h3
 exact put_else k n s l h1 k0 k1 k2 k3 k4 k5
end
section
variable {w : World}
theorem rBool_any (b:Bool) (w:World):Calls Tryz.prog 101 #[.bool b] w (Says [if b=true then 1 else 0] w):=by
 cases b with
 | true =>
  have H:=hide (rByte_any 1 w (by decide))
  go_enter Tryz.func101,Tryz.ntmps101
  go_wp2_with (go_at_call 60;refine H.out.mono ?_;rintro e w1 ⟨rfl,hb1⟩)
  go_ret
  exact ⟨rfl,hb1⟩
 | false =>
  have H:=hide (rByte_any 0 w (by decide))
  go_enter Tryz.func101,Tryz.ntmps101
  go_wp2_with (go_at_call 60;refine H.out.mono ?_;rintro e w1 ⟨rfl,hb1⟩)
  go_ret
  exact ⟨rfl,hb1⟩
theorem rright_any (s:ByteArray) (hs:s.size≤9223372036854775807) (w:World):Calls Tryz.prog 169 #[.string s] w (fun e w'=>e=.returned (.bool (rightL s.data.toList))∧w'=w):=by
 go_enter Tryz.func169,Tryz.ntmps169
 go_wp2_with fail
 go_loop [3] (fun i=>∃k:Nat,k≤s.size∧i=.int .i64 k∧Hid (∀c∈s.data.toList.take k,33≤c.toNat∧c.toNat≤126∧c≠44)) (fun i=>s.size - (intOf i).toNat)
 case atStart=>exact ⟨0,Nat.zero_le _,rfl,hide (by simp)⟩
 case round =>
  obtain ⟨k,hk,rfl,H⟩:=hrel
  by_cases hlt:k<s.size
  ·by_cases h1:s[k].toNat<33
   ·have h1':(s[k].toNat:Int)<33:=by omega
    have E:=hide (rightL_no (mem_toList hlt) (.inl h1))
    go_wp2_with fail
    go_ret
    exact ⟨by rw [E.out];rfl,rfl⟩
   ·have h1':¬ (s[k].toNat:Int)<33:=by omega
    by_cases h2:126<s[k].toNat
    ·have h2':(126:Int)<s[k].toNat:=by omega
     have E:=hide (rightL_no (mem_toList hlt) (.inr (.inl h2)))
     go_wp2_with fail
     go_ret
     exact ⟨by rw [E.out];rfl,rfl⟩
    ·have h2':¬ (126:Int)<s[k].toNat:=by omega
     by_cases h3:s[k]=44
     ·have h3':((s[k].toNat:Int) == 44)=true:=by rw [h3];rfl
      have E:=hide (rightL_no (mem_toList hlt) (.inr (.inr h3)))
      clear h3
      go_wp2_with fail
      go_ret
      exact ⟨by rw [E.out];rfl,rfl⟩
     ·have h9:s[k].toNat≠44:=fun e=>h3 (UInt8.toNat_inj.1 (by simpa using e))
      have h3':((s[k].toNat:Int) == 44)=false:=by rw [beq_eq_false_iff_ne];omega
      have H2:=hide (all_take hlt H.out ⟨Nat.le_of_not_lt h1,Nat.le_of_not_lt h2,h3⟩)
      clear H h3 h9
      go_wp2_with fail
      go_round
      case rel=>exact ⟨k+1,hlt,by go_num,H2⟩
      case measure=>simp [intOf];omega
  ·have E:=hide (rightL_yes (all_full hlt H.out))
   have hl2:s.data.toList.length=s.size:=rfl
   rw [hl2] at E
   clear H hl2
   by_cases h0:1≤s.size
   ·have h0':(1:Int)≤s.size:=by omega
    by_cases h64:s.size≤64
    ·have h64':(s.size:Int)≤64:=by omega
     go_wp2_with fail
     go_ret
     refine ⟨?_,rfl⟩
     rw [E.out,decide_eq_true h0,decide_eq_true h64]
     rfl
    ·have h64':¬ (s.size:Int)≤64:=by omega
     go_wp2_with fail
     go_ret
     refine ⟨?_,rfl⟩
     rw [E.out,decide_eq_true h0,decide_eq_false h64]
     rfl
   ·have h0':¬ (1:Int)≤s.size:=by omega
    go_wp2_with fail
    go_ret
    refine ⟨?_,rfl⟩
    rw [E.out,decide_eq_false h0]
    rfl
theorem rwrong_any {A:Option Addr} {c:Nat} {ls:List (List UInt8)} (h:Txs w (.slice A ls.length c) ls) (hl:∀y∈ls,y.length≤9223372036854775807) :
  Calls Tryz.prog 104 #[.slice A ls.length c] w (fun e w'=>e=.returned (.int .i64 (wrongN ls))∧w'=w):=by
 obtain ⟨A',c',hv,hA⟩:=h.open_
 obtain ⟨rfl,rfl⟩:A'=A∧c'=c:=by injection hv with e1 _ e2;exact ⟨e1.symm,e2.symm⟩
 clear hv h
 go_enter Tryz.func104,Tryz.ntmps104
 by_cases h16:16<ls.length
 ·have h16':(16:Int)<ls.length:=by omega
  have E:=hide (wrongN_long h16)
  go_wp2_with fail
  go_ret
  exact ⟨by rw [E.out];rfl,rfl⟩
 ·have h16':¬ (16:Int)<ls.length:=by omega
  have Hl:=hide hl
  clear hl
  go_wp2_with fail
  go_loop [3] (fun i=>∃k:Nat,k≤ls.length∧i=.int .i64 k∧Hid (∀x∈ls.take k,rightL x=true)) (fun i=>ls.length - (intOf i).toNat)
  case atStart=>exact ⟨0,Nat.zero_le _,rfl,hide (by simp)⟩
  case round =>
   obtain ⟨k,hk,rfl,H⟩:=hrel
   by_cases hlt:k<ls.length
   ·obtain ⟨ad,rfl,had,hc⟩:=hA k hlt
    have HR:=hide (rright_any (bs ls[k]) (Hl.out _ (List.getElem_mem hlt)) w)
    rw [bs_data] at HR
    have hmem:=List.getElem_mem hlt
    cases hr:rightL ls[k] with
    | false =>
     rw [hr] at HR
     have E:=hide (wrongN_no (l:=ls) (by omega) hmem hr)
     clear hmem hr
     go_wp2_with (go_at_call 169;refine HR.out.mono ?_;rintro e w1 ⟨rfl,rfl⟩)
     go_ret
     exact ⟨by rw [E.out];rfl,rfl⟩
    | true =>
     rw [hr] at HR
     have H2:=hide (show ∀x∈ls.take (k+1),rightL x=true from by
      intro x hx
      rw [List.take_succ_eq_append_getElem hlt] at hx
      rcases List.mem_append.1 hx with hx | hx
      ·exact H.out x hx
      ·simp only [List.mem_singleton] at hx
       subst hx
       exact hr)
     clear hmem hr H
     go_wp2_with (go_at_call 169;refine HR.out.mono ?_;rintro e w1 ⟨rfl,rfl⟩)
     go_round
     case rel=>exact ⟨k+1,hlt,by go_num,H2⟩
     case measure=>simp [intOf];omega
   ·have E:=hide (wrongN_yes (l:=ls) (by omega) (fun x hx=>H.out x (by rw [List.take_of_length_le (by omega)];exact hx)))
    clear H hA
    go_wp2_with fail
    go_ret
    exact ⟨by rw [E.out];rfl,rfl⟩
theorem joinC_snoc {l:List (List UInt8)} (h:l≠[]) (x:List UInt8):joinC (l++[x])=joinC l++44 :: x:=by
 induction l with
 | nil=>exact absurd rfl h
 | cons y l ih =>
  by_cases hn:l=[]
  ·subst hn
   rfl
  ·rw [List.cons_append,joinC_cons _ (by simp),ih hn,joinC_cons _ hn,List.append_assoc]
   rfl
def prefJ (l:List (List UInt8)) (i:Nat):List UInt8:=joinC (l.take i)
theorem prefJ_one {l:List (List UInt8)} (h:0<l.length):prefJ l 1=l[0]:=by
 unfold prefJ
 rw [List.take_succ_eq_append_getElem h]
 simp [joinC]
theorem prefJ_succ {l:List (List UInt8)} {i:Nat} (h:i+1<l.length):prefJ l (i+1+1)=prefJ l (i+1)++[44]++l[i+1]:=by
 unfold prefJ
 rw [List.take_succ_eq_append_getElem h,joinC_snoc]
 ·simp
 ·intro e
  have hl:(l.take (i+1)).length=i+1:=by rw [List.length_take];omega
  rw [e] at hl
  simp at hl
theorem rjoin_any {A:Option Addr} {c:Nat} {ls:List (List UInt8)} (h:Txs w (.slice A ls.length c) ls) (h9:wrongN ls=0) :
  Calls Tryz.prog 106 #[.slice A ls.length c] w (fun e w'=>e=.returned (.string (bs (joinC ls)))∧w'=w):=by
 obtain ⟨A',c',hv,hA⟩:=h.open_
 obtain ⟨rfl,rfl⟩:A'=A∧c'=c:=by injection hv with e1 _ e2;exact ⟨e1.symm,e2.symm⟩
 obtain ⟨w1,w2⟩:=wrong_ok h9
 have HS:=hide (fun i=>show (prefJ ls i).length≤16*65 from Nat.le_trans (joinC_len (l:=ls.take i) (fun y hy=>(right_len (w2 y (List.mem_of_mem_take hy))).2)) (Nat.mul_le_mul_right 65 (by rw [List.length_take];omega)))
 have HY:=hide (fun y hy=>(right_len (w2 y hy)).2)
 clear hv h w2 h9
 go_enter Tryz.func106,Tryz.ntmps106
 go_wp2_with fail
 go_loop [3,4] (fun v i=>∃k:Nat,k≤ls.length∧i=.int .i64 k∧v=.string (bs (prefJ ls k))) (fun _ i=>ls.length - (intOf i).toNat)
 case atStart=>exact ⟨0,Nat.zero_le _,rfl,rfl⟩
 case round =>
  obtain ⟨k,hk,rfl,rfl⟩:=hrel
  by_cases hlt:k<ls.length
  ·obtain ⟨ad,rfl,had,hc⟩:=hA k hlt
   have hs1:=HS.out k
   have hs2:=HY.out _ (List.getElem_mem hlt)
   cases k with
   | zero =>
    have E:=hide (prefJ_one hlt)
    have E0:prefJ ls 0=[]:=rfl
    rw [E0] at hs1 ⊢
    generalize ls[0]=y at hc E hs2
    have hc0:w.cell? ad=some (.string (bs y)):=hc
    clear E0 hs1 hc
    go_wp2_with fail
    go_round
    case rel=>exact ⟨1,hlt,by go_num,by rw [E.out]⟩
    case measure=>simp [intOf];omega
   | succ k =>
    have E:=hide (prefJ_succ hlt)
    generalize ls[k+1]=y at hc E hs2
    have hpos:(0:Int)<((k+1:Nat):Int):=by omega
    have hc0:w.cell? ⟨ad.block,ad.off+(k+1),none⟩=some (.string (bs y)):=hc
    clear hc
    go_wp2_with fail
    go_round
    case rel=>exact ⟨k+1+1,hlt,by go_num,by rw [E.out,show (⟨#[44]⟩:ByteArray)=bs [44] from rfl,bs_app,bs_app]⟩
    case measure=>simp [intOf];omega
  ·have hil:k=ls.length:=by omega
   subst hil
   have E:prefJ ls ls.length=joinC ls:=by unfold prefJ;rw [List.take_length]
   rw [E]
   clear E HS HY hA
   go_wp2_with fail
   go_ret
   exact ⟨rfl,rfl⟩
theorem rplain_core (k:Nat) (n:Int) (s:ByteArray) (A:Option Addr) (m c:Nat) (b1 b2 b3 b4 bn bs' bl:Bool) (e1:((k:Int) == 98)=b1) (e2:((k:Int) == 117)=b2) (e3:((k:Int) == 110)=b3) (e4:((k:Int) == 101)=b4)
  (hn:(n == 0)=bn) (hs:((s.size:Int) == 0)=bs') (hl:((m:Int) == 0)=bl) :
  Calls Tryz.prog 100 #[.agg #[.int .u8 k,.int .i64 n,.string s,.slice A m c]] w (fun e w'=>e=.returned (.bool (if b1 || b2 then bs' && bl else if b3 || b4 then bn && bs' else bn && bl))∧Below w.heap.size w w'):=by
 cases b1
 ·cases b2
  ·cases b3
   ·cases b4
    ·cases bn <;> cases bl
     all_goals
      go_enter Tryz.func100,Tryz.ntmps100
      go_wp2_with fail
      go_ret
      exact ⟨rfl,by exact bel_by⟩
    ·cases bn <;> cases bs'
     all_goals
      go_enter Tryz.func100,Tryz.ntmps100
      go_wp2_with fail
      go_ret
      exact ⟨rfl,by exact bel_by⟩
   ·cases bn <;> cases bs'
    all_goals
     go_enter Tryz.func100,Tryz.ntmps100
     go_wp2_with fail
     go_ret
     exact ⟨rfl,by exact bel_by⟩
  ·cases bs' <;> cases bl
   all_goals
    go_enter Tryz.func100,Tryz.ntmps100
    go_wp2_with fail
    go_ret
    exact ⟨rfl,by exact bel_by⟩
 ·cases bs' <;> cases bl
  all_goals
   go_enter Tryz.func100,Tryz.ntmps100
   go_wp2_with fail
   go_ret
   exact ⟨rfl,by exact bel_by⟩
theorem plainF_eq (x:Fld):plainF x=(if decide (x.k=98) || decide (x.k=117) then x.s.isEmpty && x.l.isEmpty else if decide (x.k=110) || decide (x.k=101) then decide (x.n=0) && x.s.isEmpty else decide (x.n=0) && x.l.isEmpty):=by
 by_cases a:x.k=98 <;> by_cases b:x.k=117 <;> by_cases c:x.k=110 <;> by_cases d:x.k=101
 all_goals simp [plainF,cntF,a,b,c,d]
theorem i_dec (k n:Nat):((k:Int) == (n:Int))=decide (k=n):=by
 rw [Bool.eq_iff_iff,beq_iff_eq,decide_eq_true_eq]
 omega
theorem rplain_any (x:Fld) {A:Option Addr} {c:Nat} (w:World):Calls Tryz.prog 100 #[fldV x (.slice A x.l.length c)] w (fun e w'=>e=.returned (.bool (plainF x))∧Below w.heap.size w w'):=by
 have hemp:∀{α:Type} (l:List α),((l.length:Int) == 0)=l.isEmpty:=by
  intro α l
  cases l with
  | nil=>rfl
  | cons a b=>rw [List.isEmpty_cons,beq_eq_false_iff_ne,List.length_cons];omega
 have h:=rplain_core (w:=w) x.k x.n (bs x.s) A x.l.length c _ _ _ _ (decide (x.n=0)) x.s.isEmpty x.l.isEmpty (i_dec x.k 98) (i_dec x.k 117) (i_dec x.k 110) (i_dec x.k 101) (by rw [Bool.eq_iff_iff];simp) (hemp x.s) (hemp x.l)
 rw [plainF_eq]
 exact h
def rputF (x:Fld):Nat × List UInt8:=if plainF x=true then putF x else (3,[])
def RPutP (x:Fld) (w:World) (e:Ending) (w':World):Prop:=e=.returned (.tuple #[.string (bs (rputF x).2),.int .i64 (rputF x).1])∧Below w.heap.size w w'
theorem rputP_of {x:Fld} {w w':World} {e:Ending} {n:Nat} {l:List UInt8} (h:rputF x=(n,l)) (he:e=.returned (.tuple #[.string (bs l),.int .i64 n])) (hb:Below w.heap.size w w'):RPutP x w e w':=by
 unfold RPutP
 rw [h]
 exact ⟨he,hb⟩
theorem rput_not (x:Fld) (hp:plainF x=false) {A:Option Addr} {c:Nat}:Calls Tryz.prog 62 #[fldV x (.slice A x.l.length c)] w (RPutP x w):=by
 have E:=hide (show rputF x=(3,[]) from by unfold rputF;rw [hp];rfl)
 have HP:=hide (fun W=>rplain_any x (A:=A) (c:=c) W)
 rw [hp] at HP
 unfold fldV at HP ⊢
 go_enter Tryz.func62,Tryz.ntmps62
 go_wp2_with (first | (go_at_call 100;refine (HP.out _).mono ?_;rintro e w1 ⟨rfl,hb1⟩) | fail)
 go_ret2
 exact rputP_of E.out rfl (by exact bel_by)

theorem rput_of {x:Fld} {n:Nat} {l:List UInt8} (hp:plainF x=true) (h:putF x=(n,l)):rputF x=(n,l):=by
 unfold rputF
 rw [if_pos hp,h]
theorem box4 {w w9:World} {t:TypeId} {a b c d:Value} (hb:Below (w.alloc (.cells #[a,b,c,d] t)).heap.size (w.alloc (.cells #[a,b,c,d] t)) w9) :
  w9.cell? ⟨w.heap.size,0,none⟩=some a∧w9.cell? ⟨w.heap.size,1,none⟩=some b∧w9.cell? ⟨w.heap.size,2,none⟩=some c∧w9.cell? ⟨w.heap.size,3,none⟩=some d:=by
 have h:=Blk.below (Blk.new w t #[a,b,c,d]) hb (Blk.new w t #[a,b,c,d]).lt
 exact ⟨h.cell 0,h.cell 1,h.cell 2,h.cell 3⟩
theorem rexts_any (l:List (List UInt8)) {A:Option Addr} {c:Nat} (ht:Txs w (.slice A l.length c) l) (hn:l.length≤1000) (hy:∀y∈l,y.length≤100000) :
  Calls Tryz.prog 107 #[.slice A l.length c] w (fun e w'=>e=.returned (.tuple #[.string (bs (putF ⟨101,0,[],l⟩).2),.int .i64 (putF ⟨101,0,[],l⟩).1])∧Below w.heap.size w w'):=by
 by_cases h1:l.length % 2=1
 ·have E:=hide (show putF ⟨101,0,[],l⟩=(3,[]) from by simp [putF,h1])
  have e1:((Int.tmod (l.length:Int) 2) == 1)=true:=by
   rw [beq_iff_eq,Int.tmod_eq_emod_of_nonneg (by omega)]
   omega
  go_enter Tryz.func107,Tryz.ntmps107
  go_wp2_with fail
  go_ret2
  exact ⟨by rw [E.out];rfl,by exact bel_by⟩
 ·have e1:((Int.tmod (l.length:Int) 2) == 1)=false:=by
   rw [beq_eq_false_iff_ne,Int.tmod_eq_emod_of_nonneg (by omega)]
   omega
  by_cases h2:16<l.length
  ·have E:=hide (show putF ⟨101,0,[],l⟩=(2,[]) from by simp [putF,h1,h2])
   have e2:(16:Int)<l.length:=by omega
   go_enter Tryz.func107,Tryz.ntmps107
   go_wp2_with fail
   go_ret2
   exact ⟨by rw [E.out];rfl,by exact bel_by⟩
  ·have E:=hide (show putF ⟨101,0,[],l⟩=(0,extsL l) from by simp [putF,h1,h2])
   have e2:¬ (16:Int)<l.length:=by omega
   have e3:Int.tdiv (l.length:Int) 2=((l.length / 2:Nat):Int):=by
    rw [Int.tdiv_eq_ediv_of_nonneg (by omega)]
    omega
   have HU:=hide (fun W=>rU32_any (l.length / 2) W (by omega))
   have HT:=hide (fun W (i:Nat) (hi:i<l.length)=>rText3_any (bs l[i]) W (by have:=hy _ (List.getElem_mem hi);rw [bs_size];omega))
   have HS:=hide (fun (i:Nat)=>show (prefT l i).length≤1000*100004 from Nat.le_trans (flat_len (l:=l.take i) (fun y h=>hy y (List.mem_of_mem_take h))) (Nat.mul_le_mul_right 100004 (Nat.le_trans (by rw [List.length_take];omega:(l.take i).length≤l.length) hn)))
   have HX:=hide ht
   have HY:=hide hy
   clear ht hy
   go_enter Tryz.func107,Tryz.ntmps107
   go_wp2_with (first | (go_at_call 70;refine (HU.out _).mono ?_;rintro e w1 ⟨rfl,hb1⟩) | fail)
   go_loopw [4,5] (fun v vi wr=>∃i:Nat,v=.string (bs (q4 (l.length / 2)++prefT l i))∧vi=.int .i64 i∧i≤l.length∧Below w.heap.size w wr) (fun _ vi _=>l.length - (intOf vi).toNat)
   case atStart=>exact ⟨0,by rw [show prefT l 0=[] from rfl,List.append_nil],rfl,Nat.zero_le _,hb1⟩
   case round =>
    obtain ⟨i,rfl,rfl,hi,hb⟩:=hrel
    by_cases hlt:i<l.length
    ·have hii:(i:Int)<l.length:=by omega
     obtain ⟨A',c',hv,hA⟩:=(HX.out.below hb).open_
     obtain ⟨rfl,rfl⟩:A'=A∧c'=c:=by injection hv with e1 _ e2;exact ⟨e1.symm,e2.symm⟩
     obtain ⟨ad,rfl,had,hc0⟩:=hA i hlt
     have hfl:=hide (flat_succ hlt)
     have hT:=hide (HT.out wr i hlt)
     have hs1:=HS.out i
     have hs2:=HY.out _ (List.getElem_mem hlt)
     have hsz:(q4 (l.length / 2)).length+(prefT l i).length≤200000000:=by rw [q4_len];omega
     generalize hQ:q4 (l.length / 2)=Q at hsz
     generalize l[i]=y at hc0 hfl hT hs2
     rw [bs_data,bs_size] at hT
     clear hv hA hQ hs1
     go_wp2_with (first | (go_at_call 105;refine hT.out.mono ?_;rintro e w2 ⟨rfl,hb2⟩) | fail)
     refine ⟨⟨i+1,?_,by go_num,by omega,hb.trans (hb2.mono hb.size)⟩,by simp [intOf];omega⟩
     rw [hfl.out]
     rfl
    ·have hil:i=l.length:=by omega
     subst hil
     clear HS HT HU
     have hE:q4 (l.length / 2)++prefT l l.length=extsL l:=by unfold prefT;rw [List.take_length];rfl
     rw [hE]
     go_wp2_with fail
     go_ret2
     exact ⟨by rw [E.out];rfl,hb⟩
theorem rput_98 (n:Int) (s:List UInt8) (l:List (List UInt8)) (hp:plainF ⟨98,n,s,l⟩=true) {A:Option Addr} {c:Nat}:Calls Tryz.prog 62 #[fldV ⟨98,n,s,l⟩ (.slice A l.length c)] w (RPutP ⟨98,n,s,l⟩ w):=by
 have HP:=hide (fun W=>rplain_any ⟨98,n,s,l⟩ (A:=A) (c:=c) W)
 rw [hp] at HP
 unfold fldV at HP ⊢
 simp only at HP ⊢
 have HT:=hide (fun W=>rBool_any true W)
 have HF:=hide (fun W=>rBool_any false W)
 by_cases h0:n=0
 ·subst h0
  have E:=hide (rput_of hp (show putF ⟨98,0,s,l⟩=(0,[0]) from rfl))
  clear hp
  go_enter Tryz.func62,Tryz.ntmps62
  go_wp2_with (first | (go_at_call 100;refine (HP.out _).mono ?_;rintro e w9 ⟨rfl,hb9⟩;obtain ⟨q0,q1,q2,q3⟩:=box4 hb9) | (go_at_call 101;refine (HF.out _).mono ?_;rintro e w1 ⟨rfl,hb1⟩) | fail)
  go_ret2
  exact rputP_of E.out rfl (by exact bel_by)
 ·by_cases h1:n=1
  ·subst h1
   have E:=hide (rput_of hp (show putF ⟨98,1,s,l⟩=(0,[1]) from rfl))
   clear hp
   go_enter Tryz.func62,Tryz.ntmps62
   go_wp2_with (first | (go_at_call 100;refine (HP.out _).mono ?_;rintro e w9 ⟨rfl,hb9⟩;obtain ⟨q0,q1,q2,q3⟩:=box4 hb9) | (go_at_call 101;refine (HT.out _).mono ?_;rintro e w1 ⟨rfl,hb1⟩) | fail)
   go_ret2
   exact rputP_of E.out rfl (by exact bel_by)
  ·have E:=hide (rput_of hp (show putF ⟨98,n,s,l⟩=(5,[]) from by simp [putF,h0,h1]))
   by_cases h2:n<0
   ·clear hp h0 h1
    go_enter Tryz.func62,Tryz.ntmps62
    go_wp2_with (first | (go_at_call 100;refine (HP.out _).mono ?_;rintro e w9 ⟨rfl,hb9⟩;obtain ⟨q0,q1,q2,q3⟩:=box4 hb9) | fail)
    go_ret2
    exact rputP_of E.out rfl (by exact bel_by)
   ·have h3:1<n:=by omega
    clear hp h0 h1
    go_enter Tryz.func62,Tryz.ntmps62
    go_wp2_with (first | (go_at_call 100;refine (HP.out _).mono ?_;rintro e w9 ⟨rfl,hb9⟩;obtain ⟨q0,q1,q2,q3⟩:=box4 hb9) | fail)
    go_ret2
    exact rputP_of E.out rfl (by exact bel_by)
theorem rput_117 (n:Int) (s:List UInt8) (l:List (List UInt8)) (hp:plainF ⟨117,n,s,l⟩=true) {A:Option Addr} {c:Nat}:Calls Tryz.prog 62 #[fldV ⟨117,n,s,l⟩ (.slice A l.length c)] w (RPutP ⟨117,n,s,l⟩ w):=by
 have HP:=hide (fun W=>rplain_any ⟨117,n,s,l⟩ (A:=A) (c:=c) W)
 rw [hp] at HP
 unfold fldV at HP ⊢
 simp only at HP ⊢
 by_cases h0:n<0
 ·have E:=hide (rput_of hp (show putF ⟨117,n,s,l⟩=(5,[]) from by
   simp only [putF]
   rw [if_neg (by decide),if_pos trivial,if_neg (by omega)]))
  clear hp
  go_enter Tryz.func62,Tryz.ntmps62
  go_wp2_with (first | (go_at_call 100;refine (HP.out _).mono ?_;rintro e w9 ⟨rfl,hb9⟩;obtain ⟨q0,q1,q2,q3⟩:=box4 hb9) | fail)
  go_ret2
  exact rputP_of E.out rfl (by exact bel_by)
 ·by_cases h1:4294967295<n
  ·have E:=hide (rput_of hp (show putF ⟨117,n,s,l⟩=(5,[]) from by
    simp only [putF]
    rw [if_neg (by decide),if_pos trivial,if_neg (by omega)]))
   clear hp
   go_enter Tryz.func62,Tryz.ntmps62
   go_wp2_with (first | (go_at_call 100;refine (HP.out _).mono ?_;rintro e w9 ⟨rfl,hb9⟩;obtain ⟨q0,q1,q2,q3⟩:=box4 hb9) | fail)
   all_goals go_ret2
   all_goals exact rputP_of E.out rfl (by exact bel_by)
  ·obtain ⟨m,rfl⟩:∃m:Nat,n=m:=⟨n.toNat,by omega⟩
   have E:=hide (rput_of hp (show putF ⟨117,m,s,l⟩=(0,q4 m) from by
    simp only [putF]
    rw [if_neg (by decide),if_pos trivial,if_pos ⟨by omega,by omega⟩]
    simp))
   have HU:=hide (fun W=>rU32_any m W (by omega))
   clear hp
   go_enter Tryz.func62,Tryz.ntmps62
   go_wp2_with (first | (go_at_call 100;refine (HP.out _).mono ?_;rintro e w9 ⟨rfl,hb9⟩;obtain ⟨q0,q1,q2,q3⟩:=box4 hb9) | (go_at_call 70;refine (HU.out _).mono ?_;rintro e w1 ⟨rfl,hb1⟩) | fail)
   go_ret2
   exact rputP_of E.out rfl (by exact bel_by)
theorem plain_ne {s:List UInt8} (h:aheadL s=true):((bs (plainL s)).toList == (bs s).toList)=false:=by
 rw [bs_toList,bs_toList,beq_eq_false_iff_ne]
 intro e
 cases s with
 | nil=>cases h
 | cons c r =>
  have hc:c=0:=by simpa [aheadL] using h
  subst hc
  have h1:plainL (0 :: r)=plainL r:=by unfold plainL;rw [List.dropWhile_cons_of_pos (by rfl)]
  have h2:=congrArg List.length e
  have h3:=plainL_len r
  rw [h1] at h2
  simp at h2
  omega
theorem plain_same {s:List UInt8} (h:aheadL s=false):((bs (plainL s)).toList == (bs s).toList)=true:=by
 rw [plainL_id h]
 exact beq_self_eq_true _
theorem rput_109 (n:Int) (s:List UInt8) (l:List (List UInt8)) (hp:plainF ⟨109,n,s,l⟩=true) {A:Option Addr} {c:Nat} (hs:s.length≤100000):Calls Tryz.prog 62 #[fldV ⟨109,n,s,l⟩ (.slice A l.length c)] w (RPutP ⟨109,n,s,l⟩ w):=by
 have HP:=hide (fun W=>rplain_any ⟨109,n,s,l⟩ (A:=A) (c:=c) W)
 rw [hp] at HP
 unfold fldV at HP ⊢
 simp only at HP ⊢
 have HW:=hide (fun W=>rWhole_any (bs s) W (by rw [bs_size];omega))
 have HL:=hide (fun W=>rPlain_any (bs s) W (by rw [bs_size];omega))
 rw [bs_data] at HW HL
 cases ha:aheadL s with
 | true =>
  have E:=hide (rput_of hp (show putF ⟨109,n,s,l⟩=(3,[]) from by simp [putF,ha]))
  have e1:=plain_ne ha
  clear hp ha HW
  generalize plainL s=ps at HL e1
  go_enter Tryz.func62,Tryz.ntmps62
  go_upto_region 13 with (first | (go_at_call 100;refine (HP.out _).mono ?_;rintro e w9 ⟨rfl,hb9⟩;obtain ⟨q0,q1,q2,q3⟩:=box4 hb9;have hlt:=hb9.size) | fail)
  have hbx:Below w.heap.size w w9:=by exact bel_by
  have HQ:=hide (And.intro q2 (And.intro hlt hbx))
  have hdr:Below w9.heap.size w9 w9.drew:=(Below.refl _ _).drew
  have hz:w.heap.size<w9.heap.size:=by simp at hlt;omega
  clear q0 q1 q2 q3 hlt hb9
  go_region_held3 (fun W=>W.cell? ⟨w.heap.size,2,none⟩=some (.string (bs s)))
   (exact (hdr.cell (p:=⟨w.heap.size,2,none⟩) hz).trans HQ.out.1)
   (first
    | (go_at_call 102;(with_reducible refine (HL.out _).mono ?_);(rintro e x4 ⟨rfl,hb4⟩);(have hd2:=hdr.trans (hb4.mono hdr.size));clear hdr;(have hdr:=hd2);clear hd2)
    | fail)
  all_goals go_wp2_with fail
  all_goals go_ret2
  all_goals exact rputP_of E.out rfl (HQ.out.2.2.trans (hdr.mono HQ.out.2.2.size))
 | false =>
  have E:=hide (rput_of hp (show putF ⟨109,n,s,l⟩=(0,wholeL s) from by simp [putF,ha]))
  have e1:=plain_same ha
  clear hp ha
  generalize plainL s=ps at HL e1
  generalize wholeL s=ws at HW E
  go_enter Tryz.func62,Tryz.ntmps62
  go_upto_region 13 with (first | (go_at_call 100;refine (HP.out _).mono ?_;rintro e w9 ⟨rfl,hb9⟩;obtain ⟨q0,q1,q2,q3⟩:=box4 hb9;have hlt:=hb9.size) | fail)
  have hbx:Below w.heap.size w w9:=by exact bel_by
  have HQ:=hide (And.intro q2 (And.intro hlt hbx))
  have hdr:Below w9.heap.size w9 w9.drew:=(Below.refl _ _).drew
  have hz:w.heap.size<w9.heap.size:=by simp at hlt;omega
  clear q0 q1 q2 q3 hlt hb9
  go_region_held3 (fun W=>W.cell? ⟨w.heap.size,2,none⟩=some (.string (bs s)))
   (exact (hdr.cell (p:=⟨w.heap.size,2,none⟩) hz).trans HQ.out.1)
   (first
    | (go_at_call 102;(with_reducible refine (HL.out _).mono ?_);(rintro e x4 ⟨rfl,hb4⟩);(have hd2:=hdr.trans (hb4.mono hdr.size));clear hdr;(have hdr:=hd2);clear hd2)
    | fail)
  all_goals (have q2:=(hdr.cell (p:=⟨w.heap.size,2,none⟩) hz).trans HQ.out.1)
  all_goals go_wp2_with (first | (go_at_call 103;refine (HW.out _).mono ?_;rintro e w1 ⟨rfl,hb1⟩) | fail)
  all_goals go_ret2
  all_goals exact rputP_of E.out rfl (HQ.out.2.2.trans ((hdr.trans (hb1.mono hdr.size)).mono HQ.out.2.2.size))
theorem rput_110 (n:Int) (s:List UInt8) (l:List (List UInt8)) (hp:plainF ⟨110,n,s,l⟩=true) {A:Option Addr} {c:Nat} (ht:Txs w (.slice A l.length c) l) (hl:∀y∈l,y.length≤100000):Calls Tryz.prog 62 #[fldV ⟨110,n,s,l⟩ (.slice A l.length c)] w (RPutP ⟨110,n,s,l⟩ w):=by
 have HP:=hide (fun W=>rplain_any ⟨110,n,s,l⟩ (A:=A) (c:=c) W)
 rw [hp] at HP
 unfold fldV at HP ⊢
 simp only at HP ⊢
 have HK:=hide (fun W (hb:Below w.heap.size w W)=>rwrong_any (ht.below hb) (fun y hy=>by have:=hl y hy;omega))
 rcases wrong_cases l with h9 | h9 | h9
 ·have E:=hide (rput_of hp (show putF ⟨110,n,s,l⟩=(0,textL (joinC l)) from by simp [putF,h9]))
  have HJ:=hide (fun W (hb:Below w.heap.size w W)=>rjoin_any (ht.below hb) h9)
  obtain ⟨w1,w2⟩:=wrong_ok h9
  have hjl:=joinC_len (l:=l) (fun y hy=>(right_len (w2 y hy)).2)
  have HT:=hide (fun W=>rText3_any (bs (joinC l)) W (by rw [bs_size];omega))
  rw [h9] at HK
  clear hp h9 w1 w2 hjl ht hl
  go_enter Tryz.func62,Tryz.ntmps62
  go_wp2_with (first
   | (go_at_call 100;refine (HP.out _).mono ?_;rintro e w9 ⟨rfl,hb9⟩;obtain ⟨q0,q1,q2,q3⟩:=box4 hb9)
   | (go_at_call 104;refine (HK.out _ (by exact bel_by)).mono ?_;rintro e w1 ⟨rfl,rfl⟩)
   | (go_at_call 106;refine (HJ.out _ (by exact bel_by)).mono ?_;rintro e w2 ⟨rfl,rfl⟩)
   | fail)
  refine (HT.out _).mono ?_
  rintro e w3 ⟨rfl,hb3⟩
  go_wp2_with fail
  go_ret2
  exact rputP_of E.out rfl (by exact bel_by)
 ·have E:=hide (rput_of hp (show putF ⟨110,n,s,l⟩=(2,[]) from by simp [putF,h9]))
  rw [h9] at HK
  clear hp h9 ht hl
  go_enter Tryz.func62,Tryz.ntmps62
  go_wp2_with (first
   | (go_at_call 100;refine (HP.out _).mono ?_;rintro e w9 ⟨rfl,hb9⟩;obtain ⟨q0,q1,q2,q3⟩:=box4 hb9)
   | (go_at_call 104;refine (HK.out _ (by exact bel_by)).mono ?_;rintro e w1 ⟨rfl,rfl⟩)
   | fail)
  go_ret2
  exact rputP_of E.out rfl (by exact bel_by)
 ·have E:=hide (rput_of hp (show putF ⟨110,n,s,l⟩=(3,[]) from by simp [putF,h9]))
  rw [h9] at HK
  clear hp h9 ht hl
  go_enter Tryz.func62,Tryz.ntmps62
  go_wp2_with (first
   | (go_at_call 100;refine (HP.out _).mono ?_;rintro e w9 ⟨rfl,hb9⟩;obtain ⟨q0,q1,q2,q3⟩:=box4 hb9)
   | (go_at_call 104;refine (HK.out _ (by exact bel_by)).mono ?_;rintro e w1 ⟨rfl,rfl⟩)
   | fail)
  go_ret2
  exact rputP_of E.out rfl (by exact bel_by)
theorem rput_99 (n:Int) (s:List UInt8) (l:List (List UInt8)) (hp:plainF ⟨99,n,s,l⟩=true) {A:Option Addr} {c:Nat}:Calls Tryz.prog 62 #[fldV ⟨99,n,s,l⟩ (.slice A l.length c)] w (RPutP ⟨99,n,s,l⟩ w):=by
 have HP:=hide (fun W=>rplain_any ⟨99,n,s,l⟩ (A:=A) (c:=c) W)
 rw [hp] at HP
 unfold fldV at HP ⊢
 simp only at HP ⊢
 by_cases h0:s.length=16
 ·have E:=hide (rput_of hp (show putF ⟨99,n,s,l⟩=(0,s) from by simp [putF,h0]))
  have e1:((s.length:Int) == 16)=true:=by rw [beq_iff_eq];omega
  have e2:((s.length:Int) != 16)=false:=by simp [bne,e1]
  clear h0 hp
  go_enter Tryz.func62,Tryz.ntmps62
  go_wp2_with (first | (go_at_call 100;refine (HP.out _).mono ?_;rintro e w9 ⟨rfl,hb9⟩;obtain ⟨q0,q1,q2,q3⟩:=box4 hb9) | fail)
  go_ret2
  exact rputP_of E.out rfl (by exact bel_by)
 ·have E:=hide (rput_of hp (show putF ⟨99,n,s,l⟩=(3,[]) from by simp [putF,h0]))
  have e1:((s.length:Int) == 16)=false:=by rw [beq_eq_false_iff_ne];omega
  have e2:((s.length:Int) != 16)=true:=by simp [bne,e1]
  clear h0 hp
  go_enter Tryz.func62,Tryz.ntmps62
  go_wp2_with (first | (go_at_call 100;refine (HP.out _).mono ?_;rintro e w9 ⟨rfl,hb9⟩;obtain ⟨q0,q1,q2,q3⟩:=box4 hb9) | fail)
  go_ret2
  exact rputP_of E.out rfl (by exact bel_by)
theorem rput_101 (n:Int) (s:List UInt8) (l:List (List UInt8)) (hp:plainF ⟨101,n,s,l⟩=true) {A:Option Addr} {c:Nat} (ht:Txs w (.slice A l.length c) l) (hn:l.length≤1000) (hl:∀y∈l,y.length≤100000):Calls Tryz.prog 62 #[fldV ⟨101,n,s,l⟩ (.slice A l.length c)] w (RPutP ⟨101,n,s,l⟩ w):=by
 have HP:=hide (fun W=>rplain_any ⟨101,n,s,l⟩ (A:=A) (c:=c) W)
 rw [hp] at HP
 unfold fldV at HP ⊢
 simp only at HP ⊢
 have HJ:=hide (fun W (hb:Below w.heap.size w W)=>rexts_any l (ht.below hb) hn hl)
 have HS:=hide (show rputF ⟨101,n,s,l⟩=putF ⟨101,0,[],l⟩ from by
  unfold rputF
  rw [if_pos hp]
  simp [putF])
 generalize putF ⟨101,0,[],l⟩=pp at HJ HS
 clear hp ht hl
 go_enter Tryz.func62,Tryz.ntmps62
 go_wp2_with (first
  | (go_at_call 100;refine (HP.out _).mono ?_;rintro e w9 ⟨rfl,hb9⟩;obtain ⟨q0,q1,q2,q3⟩:=box4 hb9)
  | (go_at_call 107;refine (HJ.out _ (by exact bel_by)).mono ?_;rintro e w1 ⟨rfl,hb1⟩) | fail)
 go_ret2
 exact rputP_of HS.out rfl (by exact bel_by)
theorem rput_else (k:Nat) (n:Int) (s:List UInt8) (l:List (List UInt8)) (hp:plainF ⟨k,n,s,l⟩=true) {A:Option Addr} {c:Nat} (hs:s.length≤100000) (h0:¬ k=98) (h1:¬ k=117) (h2:¬ k=109) (h3:¬ k=110) (h4:¬ k=99) (h5:¬ k=101) :
  Calls Tryz.prog 62 #[fldV ⟨k,n,s,l⟩ (.slice A l.length c)] w (RPutP ⟨k,n,s,l⟩ w):=by
 have HP:=hide (fun W=>rplain_any ⟨k,n,s,l⟩ (A:=A) (c:=c) W)
 rw [hp] at HP
 unfold fldV at HP ⊢
 simp only at HP ⊢
 have HT:=hide (fun W=>rText3_any (bs s) W (by rw [bs_size];omega))
 have E:=hide (rput_of hp (show putF ⟨k,n,s,l⟩=(0,textL s) from by simp [putF,h0,h1,h2,h3,h4,h5]))
 have e0:((k:Int) == 98)=false:=i_ne h0
 have e1:((k:Int) == 117)=false:=i_ne h1
 have e2:((k:Int) == 109)=false:=i_ne h2
 have e3:((k:Int) == 110)=false:=i_ne h3
 have e4:((k:Int) == 99)=false:=i_ne h4
 have e5:((k:Int) == 101)=false:=i_ne h5
 clear h0 h1 h2 h3 h4 h5 hp
 go_enter Tryz.func62,Tryz.ntmps62
 go_wp2_with (first
  | (go_at_call 100;refine (HP.out _).mono ?_;rintro e w9 ⟨rfl,hb9⟩;obtain ⟨q0,q1,q2,q3⟩:=box4 hb9)
  | (go_at_call 105;refine (HT.out _).mono ?_;rintro e w1 ⟨rfl,hb1⟩) | fail)
 go_ret2
 exact rputP_of E.out rfl (by exact bel_by)
theorem rput_any (x:Fld) (hx:SzF x) {A:Option Addr} {c:Nat} (ht:Txs w (.slice A x.l.length c) x.l):Calls Tryz.prog 62 #[fldV x (.slice A x.l.length c)] w (RPutP x w):=by
 cases hp:plainF x with
 | false=>exact rput_not x hp
 | true =>
  obtain ⟨k,n,s,l⟩:=x
  obtain ⟨h1,h2,h3⟩:=hx
  by_cases k0:k=98
  ·subst k0;exact rput_98 n s l hp
  by_cases k1:k=117
  ·subst k1;exact rput_117 n s l hp
  by_cases k2:k=109
  ·subst k2;exact rput_109 n s l hp h1
  by_cases k3:k=110
  ·subst k3;exact rput_110 n s l hp ht h3
  by_cases k4:k=99
  ·subst k4;exact rput_99 n s l hp
  by_cases k5:k=101
  ·subst k5;exact rput_101 n s l hp ht h2 h3
  exact rput_else k n s l hp h1 k0 k1 k2 k3 k4 k5
end
end Go.Proofs.YtihfpbaaiedfbaaGreatDoor
