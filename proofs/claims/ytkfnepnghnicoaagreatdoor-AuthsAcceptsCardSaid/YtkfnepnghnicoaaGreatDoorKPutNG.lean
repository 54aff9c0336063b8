/-
  Several of my texts in one: PutM, PutN, RPut.
-/
import Derived.Test.YtkfnepnghnicoaaGreatDoorKMsgG
import Derived.Test.YtkfnepnghnicoaaGreatDoorKCfBG
import Derived.Test.YtkfnepnghnicoaaGreatDoorKWholeAG
import Derived.Deep.RegionHeld3
import Derived.Deep.DeepCutAuto
set_option linter.unusedVariables false
set_option linter.unusedSimpArgs false
set_option maxHeartbeats 40000000
set_option maxRecDepth 100000
namespace Go.Proofs.YtkfnepnghnicoaaGreatDoor
open Go.RowKit Go.ChangeShapes Go.WideShapes Go.Sort
def fldV (x:Fld) (lv:Value):Value:=.agg #[.int .u8 x.k,.int .i64 x.n,.string (bs x.s),lv]
structure SzF (x:Fld):Prop where
 s:x.s.length≤100000
 n:x.l.length≤1000
 l:∀y∈x.l,y.length≤100000
section
variable {w : World}
theorem wByte_any (n:Nat) (w:World) (h1:n<256):Calls Tryz.prog 112 #[.int .u8 n] w (Says [UInt8.ofNat n] w):=by
 go_enter Tryz.func112,Tryz.ntmps112
 go_wp2
 go_ret
 exact ⟨rfl,by exact bel_by⟩
theorem wBool_any (b:Bool) (w:World):Calls Tryz.prog 188 #[.bool b] w (Says [if b=true then 1 else 0] w):=by
 cases b with
 | true =>
  have H:=hide (wByte_any 1 w (by decide))
  go_enter Tryz.func188,Tryz.ntmps188
  go_wp2_with (go_at_call 112;refine H.out.mono ?_;rintro e w1 ⟨rfl,hb1⟩)
  go_ret
  exact ⟨rfl,hb1⟩
 | false =>
  have H:=hide (wByte_any 0 w (by decide))
  go_enter Tryz.func188,Tryz.ntmps188
  go_wp2_with (go_at_call 112;refine H.out.mono ?_;rintro e w1 ⟨rfl,hb1⟩)
  go_ret
  exact ⟨rfl,hb1⟩
theorem i_ne {k:Nat} {n:Nat} (h:¬ k=n):((k:Int) == (n:Int))=false:=by rw [beq_eq_false_iff_ne];omega
theorem i_eq {k:Nat} {n:Nat} (h:k=n):((k:Int) == (n:Int))=true:=by rw [h];simp
theorem counts_any (k:Nat) (w:World):Calls Tryz.prog 187 #[.int .u8 k] w (fun e w'=>e=.returned (.int .i64 (cntF k))∧w'=w):=by
 by_cases h1:k=98
 ·subst h1
  go_enter Tryz.func187,Tryz.ntmps187
  go_wp2
  go_ret
  exact ⟨rfl,rfl⟩
 ·by_cases h2:k=117
  ·subst h2
   go_enter Tryz.func187,Tryz.ntmps187
   go_wp2
   go_ret
   exact ⟨rfl,rfl⟩
  ·by_cases h3:k=110
   ·subst h3
    go_enter Tryz.func187,Tryz.ntmps187
    go_wp2
    go_ret
    exact ⟨rfl,rfl⟩
   ·by_cases h4:k=101
    ·subst h4
     go_enter Tryz.func187,Tryz.ntmps187
     go_wp2
     go_ret
     exact ⟨rfl,rfl⟩
    ·have E:=hide (show cntF k=1 from by unfold cntF;rw [if_neg (by omega),if_neg (by omega)])
     have e1:((k:Int) == 98)=false:=i_ne h1
     have e2:((k:Int) == 117)=false:=i_ne h2
     have e3:((k:Int) == 110)=false:=i_ne h3
     have e4:((k:Int) == 101)=false:=i_ne h4
     go_enter Tryz.func187,Tryz.ntmps187
     go_wp2
     go_ret
     exact ⟨by rw [E.out];rfl,rfl⟩
theorem plain_core (k:Nat) (n:Int) (s:ByteArray) (A:Option Addr) (m c cn:Nat) (hcn:cn=0∨cn=1∨cn=2) (HC:Hid (∀W,Calls Tryz.prog 187 #[.int .u8 k] W (fun e w'=>e=.returned (.int .i64 cn)∧w'=W))) (bn b2 b3:Bool)
  (hn:(n == 0)=bn) (hs:(s.toList == [])=b2) (hl:((m:Int) == 0)=b3) :
  Calls Tryz.prog 113 #[.agg #[.int .u8 k,.int .i64 n,.string s,.slice A m c]] w (fun e w'=>e=.returned (.bool ((decide (cn=0) || bn) && ((decide (cn=1) || b2) && (decide (cn=2) || b3))))∧Below w.heap.size w w'):=by
 rcases hcn with rfl | rfl | rfl <;> cases bn <;> cases b2 <;> cases b3
 all_goals
  go_enter Tryz.func113,Tryz.ntmps113
  go_wp2_with (first | (go_at_call 187;refine (HC.out _).mono ?_;rintro e w1 ⟨rfl,rfl⟩) | fail)
  go_ret
  exact ⟨rfl,by exact bel_by⟩
theorem cnt_cases (k:Nat):cntF k=0∨cntF k=1∨cntF k=2:=by
 unfold cntF
 split
 ·exact .inl rfl
 ·split
  ·exact .inr (.inr rfl)
  ·exact .inr (.inl rfl)
theorem plain_any (x:Fld) {A:Option Addr} {c:Nat} (w:World):Calls Tryz.prog 113 #[fldV x (.slice A x.l.length c)] w (fun e w'=>e=.returned (.bool (plainF x))∧Below w.heap.size w w'):=by
 have h:=plain_core (w:=w) x.k x.n (bs x.s) A x.l.length c (cntF x.k) (cnt_cases _) (hide (fun W=>counts_any x.k W)) (decide (x.n=0)) x.s.isEmpty x.l.isEmpty (by
  rw [Bool.eq_iff_iff];simp) (by rw [bs_toList];cases x.s <;> rfl) (by
  cases x.l with
  | nil=>rfl
  | cons a b=>rw [List.isEmpty_cons,beq_eq_false_iff_ne,List.length_cons];omega)
 exact h
def prefT (l:List (List UInt8)) (i:Nat):List UInt8:=((l.take i).map textL).flatten
theorem flat_succ {l:List (List UInt8)} {i:Nat} (h:i<l.length):prefT l (i+1)=prefT l i++textL l[i]:=by
 unfold prefT
 rw [List.take_succ_eq_append_getElem h,List.map_append,List.flatten_append,List.map_singleton,List.flatten_singleton]
theorem flat_len {l:List (List UInt8)} (h:∀y∈l,y.length≤100000):(l.map textL).flatten.length≤l.length*100004:=by
 induction l with
 | nil=>simp
 | cons x l ih =>
  have h1:=h x (by simp)
  have h2:=ih (fun y hy=>h y (by simp [hy]))
  simp only [List.map_cons,List.flatten_cons,List.length_append,List.length_cons,textL,q4_len]
  omega
theorem list_any (l:List (List UInt8)) {A:Option Addr} {c:Nat} (ht:Txs w (.slice A l.length c) l) (hn:l.length≤1000) (hy:∀y∈l,y.length≤100000) :
  Calls Tryz.prog 193 #[.slice A l.length c] w (fun e w'=>e=.returned (.tuple #[.string (bs (putF ⟨101,0,[],l⟩).2),.int .i64 (putF ⟨101,0,[],l⟩).1])∧Below w.heap.size w w'):=by
 by_cases h1:l.length % 2=1
 ·have E:=hide (show putF ⟨101,0,[],l⟩=(3,[]) from by simp [putF,h1])
  have e1:((Int.tmod (l.length:Int) 2) == 0)=false:=by
   rw [beq_eq_false_iff_ne,Int.tmod_eq_emod_of_nonneg (by omega)]
   omega
  go_enter Tryz.func193,Tryz.ntmps193
  go_wp2_with fail
  go_ret2
  exact ⟨by rw [E.out];rfl,by exact bel_by⟩
 ·have e1:((Int.tmod (l.length:Int) 2) == 0)=true:=by
   rw [beq_iff_eq,Int.tmod_eq_emod_of_nonneg (by omega)]
   omega
  by_cases h2:16<l.length
  ·have E:=hide (show putF ⟨101,0,[],l⟩=(2,[]) from by simp [putF,h1,h2])
   have e2:(16:Int)<l.length:=by omega
   go_enter Tryz.func193,Tryz.ntmps193
   go_wp2_with fail
   go_ret2
   exact ⟨by rw [E.out];rfl,by exact bel_by⟩
  ·have E:=hide (show putF ⟨101,0,[],l⟩=(0,extsL l) from by simp [putF,h1,h2])
   have e2:¬ (16:Int)<l.length:=by omega
   have e3:Int.tdiv (l.length:Int) 2=((l.length / 2:Nat):Int):=by
    rw [Int.tdiv_eq_ediv_of_nonneg (by omega)]
    omega
   have e4:IntKind.u32.wrap ((l.length / 2:Nat):Int)=((l.length / 2:Nat):Int):=by
    simp only [IntKind.wrap,IntKind.bits,IntKind.signed]
    simp
    omega
   have HU:=hide (fun W=>wNum_any (l.length / 2) W (by omega))
   have HT:=hide (fun W (i:Nat) (hi:i<l.length)=>wText_bs l[i] W (by have:=hy _ (List.getElem_mem hi);omega))
   have HS:=hide (fun (i:Nat)=>show (prefT l i).length≤1000*100004 from Nat.le_trans (flat_len (l:=l.take i) (fun y h=>hy y (List.mem_of_mem_take h))) (Nat.mul_le_mul_right 100004 (Nat.le_trans (by rw [List.length_take];omega:(l.take i).length≤l.length) hn)))
   have HX:=hide ht
   have HY:=hide hy
   clear ht hy
   go_enter Tryz.func193,Tryz.ntmps193
   go_wp2_with (first | (go_at_call 189;refine (HU.out _).mono ?_;rintro e w1 ⟨rfl,hb1⟩) | fail)
   go_loopw [4,23] (fun v vi wr=>∃i:Nat,v=.string (bs (q4 (l.length / 2)++prefT l i))∧vi=.int .i64 i∧i≤l.length∧Below w.heap.size w wr) (fun _ vi _=>l.length - (intOf vi).toNat)
   case atStart=>exact ⟨0,by rw [show prefT l 0=[] from rfl,List.append_nil],rfl,Nat.zero_le _,hb1⟩
   case round =>
    obtain ⟨i,rfl,rfl,hi,hb⟩:=hrel
    by_cases hlt:i<l.length
    ·have hii:(i:Int)<l.length:=by omega
     obtain ⟨A',c',hv,hA⟩:=(HX.out.below hb).open_
     obtain ⟨rfl,rfl⟩:A'=A∧c'=c:=by injection hv with e1 _ e2;exact ⟨e1.symm,e2.symm⟩
     obtain ⟨ad,rfl,had,hc0⟩:=hA i hlt
     have hfl:=hide (flat_succ hlt)
     have hT:=hide (HT.out wr i hlt)
     have hs1:=HS.out i
     have hs2:=HY.out _ (List.getElem_mem hlt)
     have hsz:(q4 (l.length / 2)).length+(prefT l i).length≤200000000:=by rw [q4_len];omega
     generalize hQ:q4 (l.length / 2)=Q at hsz
     generalize l[i]=y at hc0 hfl hT hs2
     clear hv hA hQ hs1
     go_wp2_with (first | (go_at_call 192;refine hT.out.mono ?_;rintro e w2 ⟨rfl,hb2⟩) | fail)
     refine ⟨⟨i+1,?_,by go_num,by omega,hb.trans (hb2.mono hb.size)⟩,by simp [intOf];omega⟩
     rw [hfl.out]
     rfl
    ·have hil:i=l.length:=by omega
     subst hil
     clear HS HT HU
     have hE:q4 (l.length / 2)++prefT l l.length=extsL l:=by unfold prefT;rw [List.take_length];rfl
     rw [hE]
     go_wp2_with fail
     go_ret2
     exact ⟨by rw [E.out];rfl,hb⟩
end
def PutP (x:Fld) (w:World) (e:Ending) (w':World):Prop:=e=.returned (.tuple #[.string (bs (putF x).2),.int .i64 (putF x).1])∧Below w.heap.size w w'
theorem putP_of {x:Fld} {w w':World} {e:Ending} {n:Nat} {l:List UInt8} (h:putF x=(n,l)) (he:e=.returned (.tuple #[.string (bs l),.int .i64 n])) (hb:Below w.heap.size w w'):PutP x w e w':=by
 unfold PutP
 rw [h]
 exact ⟨he,hb⟩
section
variable {w : World}
theorem put_98 (n:Int) (s:List UInt8) (l:List (List UInt8)) {A:Option Addr} {c:Nat}:Calls Tryz.prog 114 #[fldV ⟨98,n,s,l⟩ (.slice A l.length c)] w (PutP ⟨98,n,s,l⟩ w):=by
 unfold fldV
 simp only
 have HT:=hide (fun W=>wBool_any true W)
 have HF:=hide (fun W=>wBool_any false W)
 by_cases h0:n=0
 ·subst h0
  have E:=hide (show putF ⟨98,0,s,l⟩=(0,[0]) from rfl)
  go_enter Tryz.func114,Tryz.ntmps114
  go_wp2_with (first | (go_at_call 188;refine (HF.out _).mono ?_;rintro e w1 ⟨rfl,hb1⟩) | fail)
  go_ret2
  exact putP_of E.out rfl (by exact bel_by)
 ·by_cases h1:n=1
  ·subst h1
   have E:=hide (show putF ⟨98,1,s,l⟩=(0,[1]) from rfl)
   go_enter Tryz.func114,Tryz.ntmps114
   go_wp2_with (first | (go_at_call 188;refine (HT.out _).mono ?_;rintro e w1 ⟨rfl,hb1⟩) | fail)
   go_ret2
   exact putP_of E.out rfl (by exact bel_by)
  ·have E:=hide (show putF ⟨98,n,s,l⟩=(5,[]) from by simp [putF,h0,h1])
   have e0:(n == 0)=false:=by rw [beq_eq_false_iff_ne];exact h0
   have e1:(n == 1)=false:=by rw [beq_eq_false_iff_ne];exact h1
   have e2:(n != 0)=true:=by simp [bne,e0]
   have e3:(n != 1)=true:=by simp [bne,e1]
   clear h0 h1
   go_enter Tryz.func114,Tryz.ntmps114
   go_wp2_with fail
   go_ret2
   exact putP_of E.out rfl (by exact bel_by)
theorem put_117 (n:Int) (s:List UInt8) (l:List (List UInt8)) {A:Option Addr} {c:Nat}:Calls Tryz.prog 114 #[fldV ⟨117,n,s,l⟩ (.slice A l.length c)] w (PutP ⟨117,n,s,l⟩ w):=by
 unfold fldV
 simp only
 by_cases h0:n<0
 ·have E:=hide (show putF ⟨117,n,s,l⟩=(5,[]) from by
   simp only [putF]
   rw [if_neg (by decide),if_pos trivial,if_neg (by omega)])
  go_enter Tryz.func114,Tryz.ntmps114
  go_wp2_with fail
  go_ret2
  exact putP_of E.out rfl (by exact bel_by)
 ·by_cases h1:4294967295<n
  ·have E:=hide (show putF ⟨117,n,s,l⟩=(5,[]) from by
    simp only [putF]
    rw [if_neg (by decide),if_pos trivial,if_neg (by omega)])
   go_enter Tryz.func114,Tryz.ntmps114
   go_wp2_with fail
   go_ret2
   exact putP_of E.out rfl (by exact bel_by)
  ·obtain ⟨m,rfl⟩:∃m:Nat,n=m:=⟨n.toNat,by omega⟩
   have E:=hide (show putF ⟨117,m,s,l⟩=(0,q4 m) from by
    simp only [putF]
    rw [if_neg (by decide),if_pos trivial,if_pos ⟨by omega,by omega⟩]
    simp)
   have HU:=hide (fun W=>wNum_any m W (by omega))
   have hw:IntKind.u32.wrap (m:Int)=m:=by
    simp only [IntKind.wrap,IntKind.bits,IntKind.signed]
    simp
    omega
   go_enter Tryz.func114,Tryz.ntmps114
   go_wp2_with (first | (go_at_call 189;refine (HU.out _).mono ?_;rintro e w1 ⟨rfl,hb1⟩) | fail)
   go_ret2
   exact putP_of E.out rfl (by exact bel_by)
theorem put_109 (n:Int) (s:List UInt8) (l:List (List UInt8)) {A:Option Addr} {c:Nat} (hs:s.length≤100000):Calls Tryz.prog 114 #[fldV ⟨109,n,s,l⟩ (.slice A l.length c)] w (PutP ⟨109,n,s,l⟩ w):=by
 unfold fldV
 simp only
 have HW:=hide (fun W=>wWhole_any (bs s) W (by rw [bs_size];omega))
 rw [bs_data] at HW
 cases s with
 | nil =>
  have E:=hide (show putF ⟨109,n,[],l⟩=(0,wholeL []) from rfl)
  have e1:(bs []).toList.isEmpty=true:=by rw [bs_toList];rfl
  have e2:((bs []).toList == [])=true:=by rw [bs_toList];rfl
  go_enter Tryz.func114,Tryz.ntmps114
  go_wp2_with (first | (go_at_call 190;refine (HW.out _).mono ?_;rintro e w1 ⟨rfl,hb1⟩) | fail)
  go_ret2
  exact putP_of E.out rfl (by exact bel_by)
 | cons d r =>
  have e1:=isE_cons d r
  have e2:((bs (d :: r)).toList == [])=false:=by rw [bs_toList];rfl
  have hpos:0<(bs (d :: r)).size:=by rw [bs_size];simp
  have g0:(bs (d :: r))[0]=d:=rfl
  by_cases h0:d=0
  ·subst h0
   have E:=hide (show putF ⟨109,n,0 :: r,l⟩=(3,[]) from by simp [putF,aheadL])
   have e3:(((bs (0 :: r))[0].toNat:Int) == 0)=true:=by rw [g0];rfl
   clear g0
   go_enter Tryz.func114,Tryz.ntmps114
   go_wp2_with fail
   go_ret2
   exact putP_of E.out rfl (by exact bel_by)
  ·have E:=hide (show putF ⟨109,n,d :: r,l⟩=(0,wholeL (d :: r)) from by simp [putF,aheadL,h0])
   have h9:d.toNat≠0:=fun e=>h0 (UInt8.toNat_inj.1 (by simpa using e))
   have e3:(((bs (d :: r))[0].toNat:Int) == 0)=false:=by rw [g0,beq_eq_false_iff_ne];omega
   clear g0 h0 h9
   go_enter Tryz.func114,Tryz.ntmps114
   go_wp2_with (first | (go_at_call 190;refine (HW.out _).mono ?_;rintro e w1 ⟨rfl,hb1⟩) | fail)
   go_ret2
   exact putP_of E.out rfl (by exact bel_by)
theorem put_110 (n:Int) (s:List UInt8) (l:List (List UInt8)) {A:Option Addr} {c:Nat} (ht:Txs w (.slice A l.length c) l) (hc:l.length≤c) (hl:∀y∈l,y.length≤100000):Calls Tryz.prog 114 #[fldV ⟨110,n,s,l⟩ (.slice A l.length c)] w (PutP ⟨110,n,s,l⟩ w):=by
 unfold fldV
 simp only
 have HJ:=hide (fun W (hb:Below w.heap.size w W)=>njoin_any (ht.below hb) hc (fun y hy=>by have:=hl y hy;omega))
 rcases wrong_cases l with h9 | h9 | h9
 ·have E:=hide (show putF ⟨110,n,s,l⟩=(0,textL (joinC l)) from by simp [putF,h9])
  have hj:joinN l=joinC l:=by unfold joinN;rw [if_pos h9]
  obtain ⟨w1,w2⟩:=wrong_ok h9
  have hjl:=joinC_len (l:=l) (fun y hy=>(right_len (w2 y hy)).2)
  have HT:=hide (fun W=>wText_bs (joinC l) W (by omega))
  rw [h9,hj] at HJ
  clear h9 hj w1 w2 hjl ht hl
  go_enter Tryz.func114,Tryz.ntmps114
  go_wp2_with (first | (go_at_call 191;refine (HJ.out _ (by exact bel_by)).mono ?_;rintro e w1 ⟨rfl,hb1⟩) | fail)
  refine (HT.out _).mono ?_
  rintro e w2 ⟨rfl,hb2⟩
  go_wp2_with fail
  go_ret2
  exact putP_of E.out rfl (by exact bel_by)
 ·have E:=hide (show putF ⟨110,n,s,l⟩=(2,[]) from by simp [putF,h9])
  have hj:joinN l=[]:=by unfold joinN;rw [if_neg (by omega)]
  rw [h9,hj] at HJ
  clear h9 hj ht hl
  go_enter Tryz.func114,Tryz.ntmps114
  go_wp2_with (first | (go_at_call 191;refine (HJ.out _ (by exact bel_by)).mono ?_;rintro e w1 ⟨rfl,hb1⟩) | fail)
  go_ret2
  exact putP_of E.out rfl (by exact bel_by)
 ·have E:=hide (show putF ⟨110,n,s,l⟩=(3,[]) from by simp [putF,h9])
  have hj:joinN l=[]:=by unfold joinN;rw [if_neg (by omega)]
  rw [h9,hj] at HJ
  clear h9 hj ht hl
  go_enter Tryz.func114,Tryz.ntmps114
  go_wp2_with (first | (go_at_call 191;refine (HJ.out _ (by exact bel_by)).mono ?_;rintro e w1 ⟨rfl,hb1⟩) | fail)
  go_ret2
  exact putP_of E.out rfl (by exact bel_by)
theorem put_99 (n:Int) (s:List UInt8) (l:List (List UInt8)) {A:Option Addr} {c:Nat}:Calls Tryz.prog 114 #[fldV ⟨99,n,s,l⟩ (.slice A l.length c)] w (PutP ⟨99,n,s,l⟩ w):=by
 unfold fldV
 simp only
 have hsz:(bs s).size=s.length:=rfl
 by_cases h0:s.length=16
 ·have E:=hide (show putF ⟨99,n,s,l⟩=(0,s) from by simp [putF,h0])
  have e1:((s.length:Int) == 16)=true:=by rw [beq_iff_eq];omega
  have e2:((s.length:Int) != 16)=false:=by simp [bne,e1]
  clear h0
  go_enter Tryz.func114,Tryz.ntmps114
  go_wp2_with fail
  go_ret2
  exact putP_of E.out rfl (by exact bel_by)
 ·have E:=hide (show putF ⟨99,n,s,l⟩=(3,[]) from by simp [putF,h0])
  have e1:((s.length:Int) == 16)=false:=by rw [beq_eq_false_iff_ne];omega
  have e2:((s.length:Int) != 16)=true:=by simp [bne,e1]
  clear h0
  go_enter Tryz.func114,Tryz.ntmps114
  go_wp2_with fail
  go_ret2
  exact putP_of E.out rfl (by exact bel_by)
theorem put_101 (n:Int) (s:List UInt8) (l:List (List UInt8)) {A:Option Addr} {c:Nat} (ht:Txs w (.slice A l.length c) l) (hn:l.length≤1000) (hl:∀y∈l,y.length≤100000):Calls Tryz.prog 114 #[fldV ⟨101,n,s,l⟩ (.slice A l.length c)] w (PutP ⟨101,n,s,l⟩ w):=by
 unfold fldV
 simp only
 have HJ:=hide (fun W (hb:Below w.heap.size w W)=>list_any l (ht.below hb) hn hl)
 have hsame:putF ⟨101,n,s,l⟩=putF ⟨101,0,[],l⟩:=by simp [putF]
 have HS:=hide hsame
 generalize putF ⟨101,0,[],l⟩=pp at HJ HS
 clear hsame ht hl
 go_enter Tryz.func114,Tryz.ntmps114
 go_wp2_with (first | (go_at_call 193;refine (HJ.out _ (by exact bel_by)).mono ?_;rintro e w1 ⟨rfl,hb1⟩) | fail)
 go_ret2
 exact putP_of HS.out rfl (by exact bel_by)
theorem put_else (k:Nat) (n:Int) (s:List UInt8) (l:List (List UInt8)) {A:Option Addr} {c:Nat} (hs:s.length≤100000) (h0:¬ k=98) (h1:¬ k=117) (h2:¬ k=109) (h3:¬ k=110) (h4:¬ k=99) (h5:¬ k=101) :
  Calls Tryz.prog 114 #[fldV ⟨k,n,s,l⟩ (.slice A l.length c)] w (PutP ⟨k,n,s,l⟩ w):=by
 unfold fldV
 simp only
 have HT:=hide (fun W=>wText_bs s W (by omega))
 have E:=hide (show putF ⟨k,n,s,l⟩=(0,textL s) from by simp [putF,h0,h1,h2,h3,h4,h5])
 have e0:((k:Int) == 98)=false:=i_ne h0
 have e1:((k:Int) == 117)=false:=i_ne h1
 have e2:((k:Int) == 109)=false:=i_ne h2
 have e3:((k:Int) == 110)=false:=i_ne h3
 have e4:((k:Int) == 99)=false:=i_ne h4
 have e5:((k:Int) == 101)=false:=i_ne h5
 clear h0 h1 h2 h3 h4 h5
 go_enter Tryz.func114,Tryz.ntmps114
 go_wp2_with (first | (go_at_call 192;refine (HT.out _).mono ?_;rintro e w1 ⟨rfl,hb1⟩) | fail)
 go_ret2
 exact putP_of E.out rfl (by exact bel_by)
theorem mput_any (x:Fld) (hx:SzF x) {A:Option Addr} {c:Nat} (ht:Txs w (.slice A x.l.length c) x.l) (hc:x.l.length≤c):Calls Tryz.prog 114 #[fldV x (.slice A x.l.length c)] w (PutP x w):=by
 obtain ⟨k,n,s,l⟩:=x
 obtain ⟨h1,h2,h3⟩:=hx
 by_cases k0:k=98
 ·subst k0;exact put_98 n s l
 by_cases k1:k=117
 ·subst k1;exact put_117 n s l
 by_cases k2:k=109
 ·subst k2;exact put_109 n s l h1
 by_cases k3:k=110
 ·subst k3;exact put_110 n s l ht hc h3
 by_cases k4:k=99
 ·subst k4;exact put_99 n s l
 by_cases k5:k=101
 ·subst k5;exact put_101 n s l ht h2 h3
 exact put_else k n s l h1 k0 k1 k2 k3 k4 k5
end
section
variable {w : World}
theorem rright_any (s:ByteArray) (hs:s.size≤9223372036854775807) (w:World):Calls Tryz.prog 238 #[.string s] w (fun e w'=>e=.returned (.bool (rightL s.data.toList))∧w'=w):=by
 go_enter Tryz.func238,Tryz.ntmps238
 go_wp2_with fail
 go_loop [3] (fun i=>∃k:Nat,k≤s.size∧i=.int .i64 k∧Hid (∀c∈s.data.toList.take k,33≤c.toNat∧c.toNat≤126∧c≠44)) (fun i=>s.size - (intOf i).toNat)
 case atStart=>exact ⟨0,Nat.zero_le _,rfl,hide (by simp)⟩
 case round =>
  obtain ⟨k,hk,rfl,H⟩:=hrel
  by_cases hlt:k<s.size
  ·by_cases h1:s[k].toNat<33
   ·have h1':(s[k].toNat:Int)<33:=by omega
    have E:=hide (rightL_no (mem_toList hlt) (.inl h1))
    go_wp2_with fail
    go_ret
    exact ⟨by rw [E.out];rfl,rfl⟩
   ·have h1':¬ (s[k].toNat:Int)<33:=by omega
    by_cases h2:126<s[k].toNat
    ·have h2':(126:Int)<s[k].toNat:=by omega
     have E:=hide (rightL_no (mem_toList hlt) (.inr (.inl h2)))
     go_wp2_with fail
     go_ret
     exact ⟨by rw [E.out];rfl,rfl⟩
    ·have h2':¬ (126:Int)<s[k].toNat:=by omega
     by_cases h3:s[k]=44
     ·have h3':((s[k].toNat:Int) == 44)=true:=by rw [h3];rfl
      have E:=hide (rightL_no (mem_toList hlt) (.inr (.inr h3)))
      clear h3
      go_wp2_with fail
      go_ret
      exact ⟨by rw [E.out];rfl,rfl⟩
     ·have h9:s[k].toNat≠44:=fun e=>h3 (UInt8.toNat_inj.1 (by simpa using e))
      have h3':((s[k].toNat:Int) == 44)=false:=by rw [beq_eq_false_iff_ne];omega
      have H2:=hide (all_take hlt H.out ⟨Nat.le_of_not_lt h1,Nat.le_of_not_lt h2,h3⟩)
      clear H h3 h9
      go_wp2_with fail
      go_round
      case rel=>exact ⟨k+1,hlt,by go_num,H2⟩
      case measure=>simp [intOf];omega
  ·have E:=hide (rightL_yes (all_full hlt H.out))
   have hl2:s.data.toList.length=s.size:=rfl
   rw [hl2] at E
   clear H hl2
   by_cases h0:1≤s.size
   ·have h0':(1:Int)≤s.size:=by omega
    by_cases h64:s.size≤64
    ·have h64':(s.size:Int)≤64:=by omega
     go_wp2_with fail
     go_ret
     refine ⟨?_,rfl⟩
     rw [E.out,decide_eq_true h0,decide_eq_true h64]
     rfl
    ·have h64':¬ (s.size:Int)≤64:=by omega
     go_wp2_with fail
     go_ret
     refine ⟨?_,rfl⟩
     rw [E.out,decide_eq_true h0,decide_eq_false h64]
     rfl
   ·have h0':¬ (1:Int)≤s.size:=by omega
    go_wp2_with fail
    go_ret
    refine ⟨?_,rfl⟩
    rw [E.out,decide_eq_false h0]
    rfl

end
end Go.Proofs.YtkfnepnghnicoaaGreatDoor
