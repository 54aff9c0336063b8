/- Several of my texts in one: PutM, PutN, EncG, RPut, Gets. -/
import Derived.Test.YtnhekaepgpbijaaGreatDoorHMsgG
import Derived.Test.YtnhekaepgpbijaaGreatDoorHPayMG
import Derived.Test.YtnhekaepgpbijaaGreatDoorHParseAG
import Derived.Lib.OthersKept
import Derived.WalkSmall
import Derived.Deep.RegionHeld3
import Derived.Deep.DeepCutAuto
import Derived.Lib.QuietBelow
set_option linter.unusedVariables false
set_option linter.unusedSimpArgs false
set_option maxHeartbeats 40000000
set_option maxRecDepth 100000
namespace Go.Proofs.YtnhekaepgpbijaaGreatDoor
open Go.RowKit Go.ChangeShapes Go.WideShapes Go.Sort
def fldV (x:Fld) (lv:Value):Value:=.agg #[.int .u8 x.k,.int .i64 x.n,.string (bs x.s),lv]
structure SzF (x:Fld):Prop where
 s:x.s.length≤100000
 n:x.l.length≤1000
 l:∀y∈x.l,y.length≤100000
section
variable {w : World}
theorem wByte_any (n:Nat) (w:World) (h1:n<256):Calls Tryz.prog 118 #[.int .u8 n] w (Says [UInt8.ofNat n] w):=by
 go_enter Tryz.func118,Tryz.ntmps118
 go_wp2
 go_ret
 exact ⟨rfl,by exact bel_by⟩
theorem wBool_any (b:Bool) (w:World):Calls Tryz.prog 199 #[.bool b] w (Says [if b=true then 1 else 0] w):=by
 cases b with
 | true =>
  have H:=hide (wByte_any 1 w (by decide))
  go_enter Tryz.func199,Tryz.ntmps199
  go_wp2_with (go_at_call 118;refine H.out.mono ?_;rintro e w1 ⟨rfl,hb1⟩)
  go_ret
  exact ⟨rfl,hb1⟩
 | false =>
  have H:=hide (wByte_any 0 w (by decide))
  go_enter Tryz.func199,Tryz.ntmps199
  go_wp2_with (go_at_call 118;refine H.out.mono ?_;rintro e w1 ⟨rfl,hb1⟩)
  go_ret
  exact ⟨rfl,hb1⟩
theorem i_ne {k:Nat} {n:Nat} (h:¬ k=n):((k:Int) == (n:Int))=false:=by rw [beq_eq_false_iff_ne];omega
theorem i_eq {k:Nat} {n:Nat} (h:k=n):((k:Int) == (n:Int))=true:=by rw [h];simp
theorem counts_any (k:Nat) (w:World):Calls Tryz.prog 198 #[.int .u8 k] w (fun e w'=>e=.returned (.int .i64 (cntF k))∧w'=w):=by
 by_cases h1:k=98
 ·subst h1
  go_enter Tryz.func198,Tryz.ntmps198
  go_wp2
  go_ret
  exact ⟨rfl,rfl⟩
 ·by_cases h2:k=117
  ·subst h2
   go_enter Tryz.func198,Tryz.ntmps198
   go_wp2
   go_ret
   exact ⟨rfl,rfl⟩
  ·by_cases h3:k=110
   ·subst h3
    go_enter Tryz.func198,Tryz.ntmps198
    go_wp2
    go_ret
    exact ⟨rfl,rfl⟩
   ·by_cases h4:k=101
    ·subst h4
     go_enter Tryz.func198,Tryz.ntmps198
     go_wp2
     go_ret
     exact ⟨rfl,rfl⟩
    ·have E:=hide (show cntF k=1 from by unfold cntF;rw [if_neg (by omega),if_neg (by omega)])
     have e1:((k:Int) == 98)=false:=i_ne h1
     have e2:((k:Int) == 117)=false:=i_ne h2
     have e3:((k:Int) == 110)=false:=i_ne h3
     have e4:((k:Int) == 101)=false:=i_ne h4
     go_enter Tryz.func198,Tryz.ntmps198
     go_wp2
     go_ret
     exact ⟨by rw [E.out];rfl,rfl⟩
theorem plain_core (k:Nat) (n:Int) (s:ByteArray) (A:Option Addr) (m c cn:Nat) (hcn:cn=0∨cn=1∨cn=2) (HC:Hid (∀W,Calls Tryz.prog 198 #[.int .u8 k] W (fun e w'=>e=.returned (.int .i64 cn)∧w'=W))) (bn b2 b3:Bool)
  (hn:(n == 0)=bn) (hs:(s.toList == [])=b2) (hl:((m:Int) == 0)=b3) :
  Calls Tryz.prog 119 #[.agg #[.int .u8 k,.int .i64 n,.string s,.slice A m c]] w (fun e w'=>e=.returned (.bool ((decide (cn=0) || bn) && ((decide (cn=1) || b2) && (decide (cn=2) || b3))))∧Below w.heap.size w w'):=by
 rcases hcn with rfl | rfl | rfl <;> cases bn <;> cases b2 <;> cases b3
 all_goals
  go_enter Tryz.func119,Tryz.ntmps119
  go_wp2_with (first | (go_at_call 198;refine (HC.out _).mono ?_;rintro e w1 ⟨rfl,rfl⟩) | fail)
  go_ret
  exact ⟨rfl,by exact bel_by⟩
theorem cnt_cases (k:Nat):cntF k=0∨cntF k=1∨cntF k=2:=by
 unfold cntF
 split
 ·exact .inl rfl
 ·split
  ·exact .inr (.inr rfl)
  ·exact .inr (.inl rfl)
theorem plain_any (x:Fld) {A:Option Addr} {c:Nat} (w:World):Calls Tryz.prog 119 #[fldV x (.slice A x.l.length c)] w (fun e w'=>e=.returned (.bool (plainF x))∧Below w.heap.size w w'):=by
 have h:=plain_core (w:=w) x.k x.n (bs x.s) A x.l.length c (cntF x.k) (cnt_cases _) (hide (fun W=>counts_any x.k W)) (decide (x.n=0)) x.s.isEmpty x.l.isEmpty (by
  rw [Bool.eq_iff_iff];simp) (by rw [bs_toList];cases x.s <;> rfl) (by
  cases x.l with
  | nil=>rfl
  | cons a b=>rw [List.isEmpty_cons,beq_eq_false_iff_ne,List.length_cons];omega)
 exact h
def prefT (l:List (List UInt8)) (i:Nat):List UInt8:=((l.take i).map textL).flatten
theorem flat_succ {l:List (List UInt8)} {i:Nat} (h:i<l.length):prefT l (i+1)=prefT l i++textL l[i]:=by
 unfold prefT
 rw [List.take_succ_eq_append_getElem h,List.map_append,List.flatten_append,List.map_singleton,List.flatten_singleton]
theorem flat_len {l:List (List UInt8)} (h:∀y∈l,y.length≤100000):(l.map textL).flatten.length≤l.length*100004:=by
 induction l with
 | nil=>simp
 | cons x l ih =>
  have h1:=h x (by simp)
  have h2:=ih (fun y hy=>h y (by simp [hy]))
  simp only [List.map_cons,List.flatten_cons,List.length_append,List.length_cons,textL,q4_len]
  omega
theorem list_any (l:List (List UInt8)) {A:Option Addr} {c:Nat} (ht:Txs w (.slice A l.length c) l) (hn:l.length≤1000) (hy:∀y∈l,y.length≤100000) :
  Calls Tryz.prog 204 #[.slice A l.length c] w (fun e w'=>e=.returned (.tuple #[.string (bs (putF ⟨101,0,[],l⟩).2),.int .i64 (putF ⟨101,0,[],l⟩).1])∧Below w.heap.size w w'):=by
 by_cases h1:l.length % 2=1
 ·have E:=hide (show putF ⟨101,0,[],l⟩=(3,[]) from by simp [putF,h1])
  have e1:((Int.tmod (l.length:Int) 2) == 0)=false:=by
   rw [beq_eq_false_iff_ne,Int.tmod_eq_emod_of_nonneg (by omega)]
   omega
  go_enter Tryz.func204,Tryz.ntmps204
  go_wp2_with fail
  go_ret2
  exact ⟨by rw [E.out];rfl,by exact bel_by⟩
 ·have e1:((Int.tmod (l.length:Int) 2) == 0)=true:=by
   rw [beq_iff_eq,Int.tmod_eq_emod_of_nonneg (by omega)]
   omega
  by_cases h2:16<l.length
  ·have E:=hide (show putF ⟨101,0,[],l⟩=(2,[]) from by simp [putF,h1,h2])
   have e2:(16:Int)<l.length:=by omega
   go_enter Tryz.func204,Tryz.ntmps204
   go_wp2_with fail
   go_ret2
   exact ⟨by rw [E.out];rfl,by exact bel_by⟩
  ·have E:=hide (show putF ⟨101,0,[],l⟩=(0,extsL l) from by simp [putF,h1,h2])
   have e2:¬ (16:Int)<l.length:=by omega
   have e3:Int.tdiv (l.length:Int) 2=((l.length / 2:Nat):Int):=by
    rw [Int.tdiv_eq_ediv_of_nonneg (by omega)]
    omega
   have e4:IntKind.u32.wrap ((l.length / 2:Nat):Int)=((l.length / 2:Nat):Int):=by
    simp only [IntKind.wrap,IntKind.bits,IntKind.signed]
    simp
    omega
   have HU:=hide (fun W=>wNum_any (l.length / 2) W (by omega))
   have HT:=hide (fun W (i:Nat) (hi:i<l.length)=>wText_bs l[i] W (by have:=hy _ (List.getElem_mem hi);omega))
   have HS:=hide (fun (i:Nat)=>show (prefT l i).length≤1000*100004 from Nat.le_trans (flat_len (l:=l.take i) (fun y h=>hy y (List.mem_of_mem_take h))) (Nat.mul_le_mul_right 100004 (Nat.le_trans (by rw [List.length_take];omega:(l.take i).length≤l.length) hn)))
   have HX:=hide ht
   have HY:=hide hy
   clear ht hy
   go_enter Tryz.func204,Tryz.ntmps204
   go_wp2_with (first | (go_at_call 200;refine (HU.out _).mono ?_;rintro e w1 ⟨rfl,hb1⟩) | fail)
   go_loopw [4,23] (fun v vi wr=>∃i:Nat,v=.string (bs (q4 (l.length / 2)++prefT l i))∧vi=.int .i64 i∧i≤l.length∧Below w.heap.size w wr) (fun _ vi _=>l.length - (intOf vi).toNat)
   case atStart=>exact ⟨0,by rw [show prefT l 0=[] from rfl,List.append_nil],rfl,Nat.zero_le _,hb1⟩
   case round =>
    obtain ⟨i,rfl,rfl,hi,hb⟩:=hrel
    by_cases hlt:i<l.length
    ·have hii:(i:Int)<l.length:=by omega
     obtain ⟨A',c',hv,hA⟩:=(HX.out.below hb).open_
     obtain ⟨rfl,rfl⟩:A'=A∧c'=c:=by injection hv with e1 _ e2;exact ⟨e1.symm,e2.symm⟩
     obtain ⟨ad,rfl,had,hc0⟩:=hA i hlt
     have hfl:=hide (flat_succ hlt)
     have hT:=hide (HT.out wr i hlt)
     have hs1:=HS.out i
     have hs2:=HY.out _ (List.getElem_mem hlt)
     have hsz:(q4 (l.length / 2)).length+(prefT l i).length≤200000000:=by rw [q4_len];omega
     generalize hQ:q4 (l.length / 2)=Q at hsz
     generalize l[i]=y at hc0 hfl hT hs2
     clear hv hA hQ hs1
     go_wp2_with (first | (go_at_call 203;refine hT.out.mono ?_;rintro e w2 ⟨rfl,hb2⟩) | fail)
     refine ⟨⟨i+1,?_,by go_num,by omega,hb.trans (hb2.mono hb.size)⟩,by simp [intOf];omega⟩
     rw [hfl.out]
     rfl
    ·have hil:i=l.length:=by omega
     subst hil
     clear HS HT HU
     have hE:q4 (l.length / 2)++prefT l l.length=extsL l:=by unfold prefT;rw [List.take_length];rfl
     rw [hE]
     go_wp2_with fail
     go_ret2
     exact ⟨by rw [E.out];rfl,hb⟩
end
def PutP (x:Fld) (w:World) (e:Ending) (w':World):Prop:=e=.returned (.tuple #[.string (bs (putF x).2),.int .i64 (putF x).1])∧Below w.heap.size w w'
theorem putP_of {x:Fld} {w w':World} {e:Ending} {n:Nat} {l:List UInt8} (h:putF x=(n,l)) (he:e=.returned (.tuple #[.string (bs l),.int .i64 n])) (hb:Below w.heap.size w w'):PutP x w e w':=by
 unfold PutP
 rw [h]
 exact ⟨he,hb⟩
section
variable {w : World}
theorem put_98 (n:Int) (s:List UInt8) (l:List (List UInt8)) {A:Option Addr} {c:Nat}:Calls Tryz.prog 120 #[fldV ⟨98,n,s,l⟩ (.slice A l.length c)] w (PutP ⟨98,n,s,l⟩ w):=by
 unfold fldV
 simp only
 have HT:=hide (fun W=>wBool_any true W)
 have HF:=hide (fun W=>wBool_any false W)
 by_cases h0:n=0
 ·subst h0
  have E:=hide (show putF ⟨98,0,s,l⟩=(0,[0]) from rfl)
  go_enter Tryz.func120,Tryz.ntmps120
  go_wp2_with (first | (go_at_call 199;refine (HF.out _).mono ?_;rintro e w1 ⟨rfl,hb1⟩) | fail)
  go_ret2
  exact putP_of E.out rfl (by exact bel_by)
 ·by_cases h1:n=1
  ·subst h1
   have E:=hide (show putF ⟨98,1,s,l⟩=(0,[1]) from rfl)
   go_enter Tryz.func120,Tryz.ntmps120
   go_wp2_with (first | (go_at_call 199;refine (HT.out _).mono ?_;rintro e w1 ⟨rfl,hb1⟩) | fail)
   go_ret2
   exact putP_of E.out rfl (by exact bel_by)
  ·have E:=hide (show putF ⟨98,n,s,l⟩=(5,[]) from by simp [putF,h0,h1])
   have e0:(n == 0)=false:=by rw [beq_eq_false_iff_ne];exact h0
   have e1:(n == 1)=false:=by rw [beq_eq_false_iff_ne];exact h1
   have e2:(n != 0)=true:=by simp [bne,e0]
   have e3:(n != 1)=true:=by simp [bne,e1]
   clear h0 h1
   go_enter Tryz.func120,Tryz.ntmps120
   go_wp2_with fail
   go_ret2
   exact putP_of E.out rfl (by exact bel_by)
theorem put_117 (n:Int) (s:List UInt8) (l:List (List UInt8)) {A:Option Addr} {c:Nat}:Calls Tryz.prog 120 #[fldV ⟨117,n,s,l⟩ (.slice A l.length c)] w (PutP ⟨117,n,s,l⟩ w):=by
 unfold fldV
 simp only
 by_cases h0:n<0
 ·have E:=hide (show putF ⟨117,n,s,l⟩=(5,[]) from by
   simp only [putF]
   rw [if_neg (by decide),if_pos trivial,if_neg (by omega)])
  go_enter Tryz.func120,Tryz.ntmps120
  go_wp2_with fail
  go_ret2
  exact putP_of E.out rfl (by exact bel_by)
 ·by_cases h1:4294967295<n
  ·have E:=hide (show putF ⟨117,n,s,l⟩=(5,[]) from by
    simp only [putF]
    rw [if_neg (by decide),if_pos trivial,if_neg (by omega)])
   go_enter Tryz.func120,Tryz.ntmps120
   go_wp2_with fail
   go_ret2
   exact putP_of E.out rfl (by exact bel_by)
  ·obtain ⟨m,rfl⟩:∃m:Nat,n=m:=⟨n.toNat,by omega⟩
   have E:=hide (show putF ⟨117,m,s,l⟩=(0,q4 m) from by
    simp only [putF]
    rw [if_neg (by decide),if_pos trivial,if_pos ⟨by omega,by omega⟩]
    simp)
   have HU:=hide (fun W=>wNum_any m W (by omega))
   have hw:IntKind.u32.wrap (m:Int)=m:=by
    simp only [IntKind.wrap,IntKind.bits,IntKind.signed]
    simp
    omega
   go_enter Tryz.func120,Tryz.ntmps120
   go_wp2_with (first | (go_at_call 200;refine (HU.out _).mono ?_;rintro e w1 ⟨rfl,hb1⟩) | fail)
   go_ret2
   exact putP_of E.out rfl (by exact bel_by)
theorem put_109 (n:Int) (s:List UInt8) (l:List (List UInt8)) {A:Option Addr} {c:Nat} (hs:s.length≤100000):Calls Tryz.prog 120 #[fldV ⟨109,n,s,l⟩ (.slice A l.length c)] w (PutP ⟨109,n,s,l⟩ w):=by
 unfold fldV
 simp only
 have HW:=hide (fun W=>wWhole_any (bs s) W (by rw [bs_size];omega))
 rw [bs_data] at HW
 cases s with
 | nil =>
  have E:=hide (show putF ⟨109,n,[],l⟩=(0,wholeL []) from rfl)
  have e1:(bs []).toList.isEmpty=true:=by rw [bs_toList];rfl
  have e2:((bs []).toList == [])=true:=by rw [bs_toList];rfl
  go_enter Tryz.func120,Tryz.ntmps120
  go_wp2_with (first | (go_at_call 201;refine (HW.out _).mono ?_;rintro e w1 ⟨rfl,hb1⟩) | fail)
  go_ret2
  exact putP_of E.out rfl (by exact bel_by)
 | cons d r =>
  have e1:=isE_cons d r
  have e2:((bs (d :: r)).toList == [])=false:=by rw [bs_toList];rfl
  have hpos:0<(bs (d :: r)).size:=by rw [bs_size];simp
  have g0:(bs (d :: r))[0]=d:=rfl
  by_cases h0:d=0
  ·subst h0
   have E:=hide (show putF ⟨109,n,0 :: r,l⟩=(3,[]) from by simp [putF,aheadL])
   have e3:(((bs (0 :: r))[0].toNat:Int) == 0)=true:=by rw [g0];rfl
   clear g0
   go_enter Tryz.func120,Tryz.ntmps120
   go_wp2_with fail
   go_ret2
   exact putP_of E.out rfl (by exact bel_by)
  ·have E:=hide (show putF ⟨109,n,d :: r,l⟩=(0,wholeL (d :: r)) from by simp [putF,aheadL,h0])
   have h9:d.toNat≠0:=fun e=>h0 (UInt8.toNat_inj.1 (by simpa using e))
   have e3:(((bs (d :: r))[0].toNat:Int) == 0)=false:=by rw [g0,beq_eq_false_iff_ne];omega
   clear g0 h0 h9
   go_enter Tryz.func120,Tryz.ntmps120
   go_wp2_with (first | (go_at_call 201;refine (HW.out _).mono ?_;rintro e w1 ⟨rfl,hb1⟩) | fail)
   go_ret2
   exact putP_of E.out rfl (by exact bel_by)
theorem put_110 (n:Int) (s:List UInt8) (l:List (List UInt8)) {A:Option Addr} {c:Nat} (ht:Txs w (.slice A l.length c) l) (hc:l.length≤c) (hl:∀y∈l,y.length≤100000):Calls Tryz.prog 120 #[fldV ⟨110,n,s,l⟩ (.slice A l.length c)] w (PutP ⟨110,n,s,l⟩ w):=by
 unfold fldV
 simp only
 have HJ:=hide (fun W (hb:Below w.heap.size w W)=>njoin_any (ht.below hb) hc (fun y hy=>by have:=hl y hy;omega))
 rcases wrong_cases l with h9 | h9 | h9
 ·have E:=hide (show putF ⟨110,n,s,l⟩=(0,textL (joinC l)) from by simp [putF,h9])
  have hj:joinN l=joinC l:=by unfold joinN;rw [if_pos h9]
  obtain ⟨w1,w2⟩:=wrong_ok h9
  have hjl:=joinC_len (l:=l) (fun y hy=>(right_len (w2 y hy)).2)
  have HT:=hide (fun W=>wText_bs (joinC l) W (by omega))
  rw [h9,hj] at HJ
  clear h9 hj w1 w2 hjl ht hl
  go_enter Tryz.func120,Tryz.ntmps120
  go_wp2_with (first | (go_at_call 202;refine (HJ.out _ (by exact bel_by)).mono ?_;rintro e w1 ⟨rfl,hb1⟩) | fail)
  refine (HT.out _).mono ?_
  rintro e w2 ⟨rfl,hb2⟩
  go_wp2_with fail
  go_ret2
  exact putP_of E.out rfl (by exact bel_by)
 ·have E:=hide (show putF ⟨110,n,s,l⟩=(2,[]) from by simp [putF,h9])
  have hj:joinN l=[]:=by unfold joinN;rw [if_neg (by omega)]
  rw [h9,hj] at HJ
  clear h9 hj ht hl
  go_enter Tryz.func120,Tryz.ntmps120
  go_wp2_with (first | (go_at_call 202;refine (HJ.out _ (by exact bel_by)).mono ?_;rintro e w1 ⟨rfl,hb1⟩) | fail)
  go_ret2
  exact putP_of E.out rfl (by exact bel_by)
 ·have E:=hide (show putF ⟨110,n,s,l⟩=(3,[]) from by simp [putF,h9])
  have hj:joinN l=[]:=by unfold joinN;rw [if_neg (by omega)]
  rw [h9,hj] at HJ
  clear h9 hj ht hl
  go_enter Tryz.func120,Tryz.ntmps120
  go_wp2_with (first | (go_at_call 202;refine (HJ.out _ (by exact bel_by)).mono ?_;rintro e w1 ⟨rfl,hb1⟩) | fail)
  go_ret2
  exact putP_of E.out rfl (by exact bel_by)
theorem put_99 (n:Int) (s:List UInt8) (l:List (List UInt8)) {A:Option Addr} {c:Nat}:Calls Tryz.prog 120 #[fldV ⟨99,n,s,l⟩ (.slice A l.length c)] w (PutP ⟨99,n,s,l⟩ w):=by
 unfold fldV
 simp only
 have hsz:(bs s).size=s.length:=rfl
 by_cases h0:s.length=16
 ·have E:=hide (show putF ⟨99,n,s,l⟩=(0,s) from by simp [putF,h0])
  have e1:((s.length:Int) == 16)=true:=by rw [beq_iff_eq];omega
  have e2:((s.length:Int) != 16)=false:=by simp [bne,e1]
  clear h0
  go_enter Tryz.func120,Tryz.ntmps120
  go_wp2_with fail
  go_ret2
  exact putP_of E.out rfl (by exact bel_by)
 ·have E:=hide (show putF ⟨99,n,s,l⟩=(3,[]) from by simp [putF,h0])
  have e1:((s.length:Int) == 16)=false:=by rw [beq_eq_false_iff_ne];omega
  have e2:((s.length:Int) != 16)=true:=by simp [bne,e1]
  clear h0
  go_enter Tryz.func120,Tryz.ntmps120
  go_wp2_with fail
  go_ret2
  exact putP_of E.out rfl (by exact bel_by)
theorem put_101 (n:Int) (s:List UInt8) (l:List (List UInt8)) {A:Option Addr} {c:Nat} (ht:Txs w (.slice A l.length c) l) (hn:l.length≤1000) (hl:∀y∈l,y.length≤100000):Calls Tryz.prog 120 #[fldV ⟨101,n,s,l⟩ (.slice A l.length c)] w (PutP ⟨101,n,s,l⟩ w):=by
 unfold fldV
 simp only
 have HJ:=hide (fun W (hb:Below w.heap.size w W)=>list_any l (ht.below hb) hn hl)
 have hsame:putF ⟨101,n,s,l⟩=putF ⟨101,0,[],l⟩:=by simp [putF]
 have HS:=hide hsame
 generalize putF ⟨101,0,[],l⟩=pp at HJ HS
 clear hsame ht hl
 go_enter Tryz.func120,Tryz.ntmps120
 go_wp2_with (first | (go_at_call 204;refine (HJ.out _ (by exact bel_by)).mono ?_;rintro e w1 ⟨rfl,hb1⟩) | fail)
 go_ret2
 exact putP_of HS.out rfl (by exact bel_by)
theorem put_else (k:Nat) (n:Int) (s:List UInt8) (l:List (List UInt8)) {A:Option Addr} {c:Nat} (hs:s.length≤100000) (h0:¬ k=98) (h1:¬ k=117) (h2:¬ k=109) (h3:¬ k=110) (h4:¬ k=99) (h5:¬ k=101) :
  Calls Tryz.prog 120 #[fldV ⟨k,n,s,l⟩ (.slice A l.length c)] w (PutP ⟨k,n,s,l⟩ w):=by
 unfold fldV
 simp only
 have HT:=hide (fun W=>wText_bs s W (by omega))
 have E:=hide (show putF ⟨k,n,s,l⟩=(0,textL s) from by simp [putF,h0,h1,h2,h3,h4,h5])
 have e0:((k:Int) == 98)=false:=i_ne h0
 have e1:((k:Int) == 117)=false:=i_ne h1
 have e2:((k:Int) == 109)=false:=i_ne h2
 have e3:((k:Int) == 110)=false:=i_ne h3
 have e4:((k:Int) == 99)=false:=i_ne h4
 have e5:((k:Int) == 101)=false:=i_ne h5
 clear h0 h1 h2 h3 h4 h5
 go_enter Tryz.func120,Tryz.ntmps120
 go_wp2_with (first | (go_at_call 203;refine (HT.out _).mono ?_;rintro e w1 ⟨rfl,hb1⟩) | fail)
 go_ret2
 exact putP_of E.out rfl (by exact bel_by)
theorem mput_any (x:Fld) (hx:SzF x) {A:Option Addr} {c:Nat} (ht:Txs w (.slice A x.l.length c) x.l) (hc:x.l.length≤c):Calls Tryz.prog 120 #[fldV x (.slice A x.l.length c)] w (PutP x w):=by
 obtain ⟨k,n,s,l⟩:=x
 obtain ⟨h1,h2,h3⟩:=hx
 by_cases k0:k=98
 ·subst k0;exact put_98 n s l
 by_cases k1:k=117
 ·subst k1;exact put_117 n s l
 by_cases k2:k=109
 ·subst k2;exact put_109 n s l h1
 by_cases k3:k=110
 ·subst k3;exact put_110 n s l ht hc h3
 by_cases k4:k=99
 ·subst k4;exact put_99 n s l
 by_cases k5:k=101
 ·subst k5;exact put_101 n s l ht h2 h3
 exact put_else k n s l h1 k0 k1 k2 k3 k4 k5
end
end Go.Proofs.YtnhekaepgpbijaaGreatDoor
namespace Go.Proofs.YtnhekaepgpbijaaGreatDoor
open Go.RowKit
def letw (n:Int):ByteArray :=
 if n=50 then ⟨#[117,115,101,114,97,117,116,104,45,114,101,113,117,101,115,116]⟩ else if n=51 then ⟨#[117,115,101,114,97,117,116,104,45,102,97,105,108,117,114,101]⟩ else if n=52 then ⟨#[117,115,101,114,97,117,116,104,45,115,117,99,99,101,115,115]⟩ else if n=53 then ⟨#[117,115,101,114,97,117,116,104,45,98,97,110,110,101,114]⟩ else if n=60 then ⟨#[117,115,101,114,97,117,116,104,45,112,107,45,111,107]⟩ else ⟨#[]⟩
def word (n:Int):ByteArray :=
 if n=1 then ⟨#[100,105,115,99,111,110,110,101,99,116]⟩ else if n=2 then ⟨#[105,103,110,111,114,101]⟩ else if n=3 then ⟨#[117,110,105,109,112,108,101,109,101,110,116,101,100]⟩ else if n=4 then ⟨#[100,101,98,117,103]⟩ else if n=5 then ⟨#[115,101,114,118,105,99,101,45,114,101,113,117,101,115,116]⟩ else if n=6 then ⟨#[115,101,114,118,105,99,101,45,97,99,99,101,112,116]⟩ else if n=7 then ⟨#[101,120,116,45,105,110,102,111]⟩ else if n=20 then ⟨#[107,101,120,105,110,105,116]⟩ else if n=21 then ⟨#[110,101,119,107,101,121,115]⟩ else if n=30 then ⟨#[101,99,100,104,45,105,110,105,116]⟩ else if n=31 then ⟨#[114,101,112,108,121,45,111,114,45,103,114,111,117,112]⟩ else if n=32 then ⟨#[103,101,120,45,105,110,105,116]⟩ else if n=33 then ⟨#[103,101,120,45,114,101,112,108,121]⟩ else if n=34 then ⟨#[103,101,120,45,114,101,113,117,101,115,116]⟩ else letw n
theorem letw_any (n:Int) (w:World):Calls Tryz.prog 95 #[.int .i64 n] w fun e w'=>e=.returned (.string (letw n))∧w=w':=by
 go_enter Tryz.func95,Tryz.ntmps95
 go_wp2
 all_goals (go_ret;refine ⟨?_,rfl⟩;simp_all [letw])
theorem word_any (n:Int) (w:World):Calls Tryz.prog 48 #[.int .i64 n] w fun e w'=>e=.returned (.string (word n))∧w=w':=by
 go_enter Tryz.func48,Tryz.ntmps48
 go_wp2_with (go_at_call 95;refine (letw_any _ _).mono ?_;rintro e w' ⟨rfl,rfl⟩)
 all_goals (go_ret;refine ⟨?_,rfl⟩;simp_all [word])
def known (n:Int):Bool:=!(forms n).isEmpty
theorem known_any (n:Int) (w:World):Calls Tryz.prog 44 #[.int .i64 n] w fun e w'=>e=.returned (.bool (known n))∧Below w.heap.size w w':=by
 have hl:=forms_len n
 go_enter Tryz.func44,Tryz.ntmps44
 go_wp2_with (go_at_call 45;refine (forms_any _ _).mono ?_;rintro e w1 ⟨v,rfl,⟨A,c,rfl,hr⟩,hb⟩)
 go_ret
 refine ⟨ret_bool ?_,hb⟩
 unfold known
 cases forms n <;> simp
def num (s:ByteArray):Int × Bool:=match ((List.range 60).map (fun i=>((i+1:Nat):Int))).find? (fun n=>word n != ⟨#[]⟩ && word n == s) with | some n=>(n,true) | none=>(0,false)
end Go.Proofs.YtnhekaepgpbijaaGreatDoor

namespace Go.Proofs.YtnhekaepgpbijaaGreatDoor
open Go.RowKit Go.ChangeShapes Go.WideShapes Go.Sort
def msgB:List UInt8:=[109,101,115,115,97,103,101]
def encErr (num:Int):EncR→Option (List (List UInt8) × Nat)
 | .ok _=>none
 | .none=>some ([msgB],6)
 | .long=>some ([(word num).data.toList],2)
 | .bad e i=>some ([(word num).data.toList,Lib.decDigits i],e)
def EncP (num:Int) (l:List Fld) (w:World) (e:Ending) (w':World):Prop :=
 Below w.heap.size w w'∧((∃s,encS num l=.ok s∧e=.returned (.tuple #[.string (bs s),.nilIface])) ∨
  (∃b ps,∃k:Nat,encErr num (encS num l)=some (ps,k)∧e=.returned (.tuple #[.string ⟨#[]⟩,errV b])∧IsErr w' (errV b) ps k))
theorem encGo_step {f:List UInt8} {l:List Fld} {i:Nat} (out:List UInt8) (hf:i<f.length) (hl:i<l.length) :
  encGo (f.drop i) (l.drop i) i out=if l[i].k=f[i].toNat∧plainF l[i]=true then (if (putF l[i]).1=0 then (if 32768<(out++(putF l[i]).2).length then .long else encGo (f.drop (i+1)) (l.drop (i+1)) (i+1) (out++(putF l[i]).2)) else .bad (putF l[i]).1 i) else .bad 3 i:=by
 rw [List.drop_eq_getElem_cons hf,List.drop_eq_getElem_cons hl]
 rfl
theorem form_ascii {n:Int} {f:ByteArray} (h:f∈forms n):f.size≤13∧∀c∈f.data.toList,c.toNat<128:=by
 have key:∀g∈forms n,g.size≤13∧∀c∈g.data.toList,c.toNat<128:=by
  unfold forms
  repeat' refine ite_ok (P:=fun l:List ByteArray=>∀g∈l,g.size≤13∧∀c∈g.data.toList,c.toNat<128) ?_ ?_
  all_goals decide
 exact key f h
theorem putF_err_lt (x:Fld):(putF x).1≤5:=by
 unfold putF
 have:=wrong_cases x.l
 repeat' split
 all_goals simp
 all_goals omega
theorem putF_len {x:Fld} (hx:SzF x):(putF x).2.length≤200000000:=by
 have hw:=plainL_len x.s
 have hw2:=signL_len (plainL x.s)
 have h1:=hx.s
 have h2:=flat_len hx.l
 have h3:=hx.n
 unfold putF
 split
 ·split
  ·simp
  ·split <;> simp
 ·split
  ·split
   ·simp [q4_len]
   ·simp
  ·split
   ·split
    ·simp
    ·simp only [wholeL,List.length_append,q4_len]
     omega
   ·split
    ·split
     ·rename_i hk
      obtain ⟨_,w2⟩:=wrong_ok hk
      have:=joinC_len (l:=x.l) (fun y hy=>(right_len (w2 y hy)).2)
      simp only [textL,List.length_append,q4_len]
      omega
     ·simp
    ·split
     ·split
      ·simp
       omega
      ·simp
     ·split
      ·split
       ·simp
       ·split
        ·simp
        ·simp only [extsL,List.length_append,q4_len]
         omega
      ·simp only [textL,List.length_append,q4_len]
       omega
theorem box4' {w w9:World} {t:TypeId} {a b c d:Value} (hb:Below (w.alloc (.cells #[a,b,c,d] t)).heap.size (w.alloc (.cells #[a,b,c,d] t)) w9) :
  w9.cell? ⟨w.heap.size,0,none⟩=some a∧w9.cell? ⟨w.heap.size,1,none⟩=some b∧w9.cell? ⟨w.heap.size,2,none⟩=some c∧w9.cell? ⟨w.heap.size,3,none⟩=some d:=by
 have h:=Blk.below (Blk.new w t #[a,b,c,d]) hb (Blk.new w t #[a,b,c,d]).lt
 exact ⟨h.cell 0,h.cell 1,h.cell 2,h.cell 3⟩
section
variable {w : World}
theorem flds_at {A:Option Addr} {l:List Fld} (h:Flds w A l) {i:Nat} (hi:i<l.length):∃ad B c,A=some ad∧w.cell? (ad.add (i*4))=some (.int .u8 l[i].k)∧w.cell? ⟨(ad.add (i*4)).block,(ad.add (i*4)).off+1,none⟩=some (.int .i64 l[i].n)∧w.cell? ⟨(ad.add (i*4)).block,(ad.add (i*4)).off+2,none⟩=some (.string (bs l[i].s))∧w.cell? ⟨(ad.add (i*4)).block,(ad.add (i*4)).off+3,none⟩=some (.slice B l[i].l.length c)∧Txs w (.slice B l[i].l.length c) l[i].l∧l[i].l.length≤c∧l[i].k<256:=by
 obtain ⟨ad,lv,e,_,c0,c1,c2,c3,⟨ht,B,c,rfl,hc⟩,hk⟩:=h.at_ i l[i] (List.getElem?_eq_getElem hi)
 exact ⟨ad,B,c,e,c0,c1,c2,c3,ht,hc,hk⟩
structure EncI (w:World) (num:Int) (l:List Fld) (A:Option Addr) (c:Nat) (f:ByteArray) (B i:Nat) (out:List UInt8) (wr:World):Prop where
 bel:Below w.heap.size w wr
 it:wr.heap[B]?=some (.stringIter f i)
 box:Blk wr w.heap.size 55 #[.int .i64 num,.slice A l.length c]
 go:encGo (f.data.toList.drop i) (l.drop i) i out=encS num l
 len:out.length≤32768
theorem encode_anyM (num:Int) {l:List Fld} {A:Option Addr} {c:Nat} (hl:Flds w A l) (hs:∀x∈l,SzF x) (hll:l.length≤1000) :
  Calls Tryz.prog 68 #[.agg #[.int .i64 num,.slice A l.length c]] w (EncP num l w):=by
 have HF:=hide (fun W=>fit_any num (l.length:Int) W)
 cases hf:(fit num l.length).2 with
 | false =>
  have hE:=hide (show encErr num (encS num l)=some ([msgB],6) from by unfold encS;rw [hf];rfl)
  rw [hf] at HF
  have HO:=hide (fun W=>fof_any ⟨#[109,101,115,115,97,103,101]⟩ 6 (by decide) W)
  generalize (fit num l.length).1=f at HF
  clear hl hs
  unfold errV at HO
  go_enter Tryz.func68,Tryz.ntmps68
  go_wp2_with (first
   | (go_at_call 117;refine (HF.out _).mono ?_;rintro e w1 ⟨rfl,hb1⟩)
   | (go_at_call 43;refine (HO.out _).mono ?_;rintro e w2 ⟨b,rfl,hi,hb2⟩)
   | fail)
  go_ret2
  exact ⟨by exact bel_by,.inr ⟨b,_,6,hE.out,rfl,hi⟩⟩
 | true =>
  obtain ⟨hmem,hsz⟩:=fit_get hf
  obtain ⟨hf13,hasc⟩:=form_ascii hmem
  have hn:=forms_num (n:=num) (fun e=>by rw [e] at hmem;simp at hmem)
  have hE0:encGo ((fit num l.length).1.data.toList.drop 0) (l.drop 0) 0 [UInt8.ofNat num.toNat]=encS num l:=by
   unfold encS
   rw [if_pos hf]
   rfl
  rw [hf] at HF
  generalize (fit num l.length).1=f at HF hsz hf13 hasc hE0
  obtain ⟨m,rfl⟩:∃m:Nat,num=m:=⟨num.toNat,by omega⟩
  have hmm:(m:Int).toNat=m:=by simp
  rw [hmm] at hE0
  have HB:=hide (fun W=>wByte_any m W (by omega))
  have hwm:IntKind.u8.wrap (m:Int)=m:=by
   simp only [IntKind.wrap,IntKind.bits,IntKind.signed]
   simp
   omega
  have HL:=hide hl
  have HS:=hide hs
  have HA:=hide hasc
  have HE0:=hide hE0
  have HW:=hide (fun W=>word_any (m:Int) W)
  have hfl:f.data.toList.length=l.length:=hsz
  have hsz13:l.length≤13:=by omega
  have Hsz:=hide hsz
  clear hl hs hasc hE0 hmem hf hn hmm hsz
  go_enter Tryz.func68,Tryz.ntmps68
  go_upto_region 5 with (first
   | (go_at_call 117;refine (HF.out _).mono ?_;rintro e w1 ⟨rfl,hb1⟩;have hbx1:=Blk.below (Blk.new w 55 #[.int .i64 m,.slice A l.length c]) hb1 (Blk.new w _ _).lt;have c0:=hbx1.cell 0;simp only [List.getElem?_toArray,List.getElem?_cons_zero] at c0)
   | (go_at_call 118;refine (HB.out _).mono ?_;rintro e w2 ⟨rfl,hb2⟩)
   | fail)
  have hbx2:=hbx1.below hb2 hbx1.lt
  have hbw2:Below w.heap.size w w2:=by exact bel_by
  have HI0:=hide (show EncI w m l A c f w2.heap.size 0 [UInt8.ofNat m] (w2.iter f 0) from ⟨by show Below w.heap.size w (w2.alloc _);exact hbw2.alloc hbw2.size _,World.iter_heap _ _ _,by show Blk (w2.alloc _) _ _ _;exact hbx2.alloc _,HE0.out,by simp⟩)
  have hB:w.heap.size<w2.heap.size:=hbx2.lt
  clear hb1 hb2 hbx1 c0 HF HB hbx2 hbw2 HE0
  go_upto_region 6 with fail
  generalize hWi:w2.iter f 0=w3 at HI0 ⊢
  generalize w2.heap.size=B at HI0 hB ⊢
  clear hWi
  go_loopw [6] (fun vo wr=>∃(i:Nat) (out:List UInt8),vo=.string (bs out)∧i≤l.length∧Hid (EncI w m l A c f B i out wr)) (fun _ wr=>l.length - wr.iterPos B)
  case atStart=>exact ⟨0,_,rfl,Nat.zero_le _,HI0⟩
  case round =>
   obtain ⟨i,out,rfl,hi,HI⟩:=hrel
   have hit:=HI.out.it
   have hip:wr.iterPos B=i:=iterPos_of hit
   by_cases hlt:i<l.length
   ·have hif:i<f.size:=by rw [Hsz.out];exact hlt
    have hmemc:=mem_toList hif
    have hnx:∀ty,(Instr.next (.pointer (some ⟨B,0,none⟩)) true ty).run Tryz.prog wr=_:=fun ty=>Lib.run_next_ascii_at wr B f i ty hit hif (HA.out _ hmemc)
    obtain ⟨wn,hwn⟩:∃wn,wn=wr.iterAt B f (i+1):=⟨_,rfl⟩
    have hitn:wn.heap[B]?=some (.stringIter f (i+1)):=by rw [hwn];exact Lib.iterAt_heap wr B f i (i+1) hit
    have hbn:Below w.heap.size w wn:=by rw [hwn];exact Lib.below_iterAt HI.out.bel (by omega) f (i+1)
    have hbxn:Blk wn w.heap.size 55 #[.int .i64 m,.slice A l.length c]:=by
     unfold Blk
     rw [hwn,Lib.iterAt_other _ _ _ _ _ (by omega)]
     exact HI.out.box
    have hgo:=hide (encGo_step (i:=i) (f:=f.data.toList) (l:=l) out (by omega) hlt)
    have hgo2:=hide HI.out.go
    have hol:=HI.out.len
    rw [←hwn] at hnx
    obtain ⟨ad,A2,c2,rfl,q0,q1,q2,q3,hTx,hc2,hk⟩:=flds_at (HL.out.below hbn) hlt
    have hSx:=HS.out _ (List.getElem_mem hlt)
    have hpl:=putF_len hSx
    have hpe:=putF_err_lt l[i]
    have hfc:f.data.toList[i]'(by omega)=f[i]:=rfl
    rw [hfc] at hgo
    generalize hx:l[i]=x at q0 q1 q2 q3 hTx hc2 hk hSx hgo hpl hpe
    have hc7:f[i].toNat<128:=HA.out _ hmemc
    generalize hcc:f[i].toNat=ch at hnx hgo hc7
    have hw8:IntKind.u8.wrap (ch:Int)=ch:=by
     simp only [IntKind.wrap,IntKind.bits,IntKind.signed]
     simp
     omega
    have HPl:=hide (fun W=>plain_any x (A:=A2) (c:=c2) W)
    have HPu:=hide (fun (W:World) (hb:Below wn.heap.size wn W)=>mput_any x hSx (hTx.below hb) hc2)
    have Hbx:=hide (And.intro hbxn (And.intro hbn (And.intro hitn hB)))
    have d0:=hbxn.cell 0
    have d1:=hbxn.cell 1
    simp only [List.getElem?_toArray,List.getElem?_cons_zero,List.getElem?_cons_succ] at d0 d1
    have Hip:=hide hip
    have hi13:i<100:=by omega
    have HIt:=hide (fun W=>Tryz.strconv_Itoa_small i hi13 W)
    have Hol:=hide (And.intro hol (And.intro hpl hpe))
    clear hx hcc hit hwn hbn hbxn hitn hip hmemc hfc hSx HI hpl hpe hol hTx
    unfold fldV at HPl HPu
    have HAt:=hide (fun (W:World) (b:Nat) (ps:List (List UInt8)) (k:Int) (h:IsErr W (errV b) ps k)=>fat_any (word (m:Int)) b h)
    unfold errV at HAt
    have hlt3:w.heap.size<wn.heap.size:=Hbx.out.1.lt
    by_cases hch:x.k=ch
    ·have ek:((x.k:Int) == (ch:Int))=true:=i_eq hch
     cases hp:plainF x with
     | false =>
      have HE:=hide (show encErr m (encS m l)=some ([(word (m:Int)).data.toList,Lib.decDigits i],3) from by
       rw [←hgo2.out,hgo.out,if_neg (by rw [hp];simp)]
       rfl)
      rw [hp] at HPl
      have HOf:=hide (fun W=>fof_any ⟨(Lib.decDigits i).toArray⟩ 3 (by decide) W)
      unfold errV at HOf
      have hbn:=Hbx.out.2.1
      clear HPu hgo hgo2 hp hch
      go_wp2_with (first
      | (go_at_call 119;refine (HPl.out _).mono ?_;rintro e w4 ⟨rfl,hb4⟩;have z0:=(Blk.below ((Hbx.out.1).alloc (.cells #[.int .u8 x.k,.int .i64 x.n,.string (bs x.s),.slice A2 x.l.length c2] 60)) hb4 (by simp;omega)).cell 0;simp only [List.getElem?_toArray,List.getElem?_cons_zero] at z0)
      | (go_at_call 48;refine (HW.out _).mono ?_;rintro e w5 ⟨rfl,rfl⟩) | (go_at_call 93;refine (HIt.out _).mono ?_;rintro e w6 ⟨rfl,rfl⟩) | (go_at_call 43;refine (HOf.out _).mono ?_;rintro e w7 ⟨b7,rfl,hi7,hb7⟩) | (go_at_call 47;refine (HAt.out _ _ _ _ hi7).mono ?_;rintro e w8 ⟨b8,rfl,hi8,hb8⟩) | fail)
      go_ret2
      exact ⟨by exact bel_by,.inr ⟨b8,_,3,HE.out,rfl,hi8⟩⟩
     | true =>
      rw [hp] at HPl
      by_cases he:(putF x).1=0
      ·have hpl:=Hol.out.2.1
       have hol:=Hol.out.1
       unfold PutP at HPu
       by_cases hL:32768<(out++(putF x).2).length
       ·have HE:=hide (show encErr m (encS m l)=some ([(word (m:Int)).data.toList],2) from by
         rw [←hgo2.out,hgo.out,if_pos ⟨hch,hp⟩,if_pos he,if_pos hL]
         rfl)
        have HOf:=hide (fun W=>fof_any (word (m:Int)) 2 (by decide) W)
        unfold errV at HOf
        rw [he] at HPu
        generalize (putF x).2=bb at HPu hL hpl
        have hL1:(32768:Int)<((bs (out++bb)).size:Int):=by rw [bs_size];omega
        have hL2:(32768:Int)<(out.length:Int)+(bb.length:Int):=by rw [List.length_append] at hL;omega
        have hL3:(32768:Int)<((out.length+bb.length:Nat):Int):=by omega
        have hbn:=Hbx.out.2.1
        clear hgo hgo2 hp hch he hL Hol
        go_wp2_with (first
         | (go_at_call 119;refine (HPl.out _).mono ?_;rintro e w4 ⟨rfl,hb4⟩;obtain ⟨y0,y1,y2,y3⟩:=box4' hb4;have hbx4:=Blk.below ((Hbx.out.1).alloc (.cells #[.int .u8 x.k,.int .i64 x.n,.string (bs x.s),.slice A2 x.l.length c2] 60)) hb4 (by simp;omega))
         | (go_at_call 120;refine (HPu.out _ (by exact bel_by)).mono ?_;rintro e w9 ⟨rfl,hb9⟩;have z0:=(hbx4.below hb9 hbx4.lt).cell 0;simp only [List.getElem?_toArray,List.getElem?_cons_zero] at z0)
         | (go_at_call 48;refine (HW.out _).mono ?_;rintro e w5 ⟨rfl,rfl⟩)
         | (go_at_call 43;refine (HOf.out _).mono ?_;rintro e w7 ⟨b7,rfl,hi7,hb7⟩)
         | fail)
        go_ret2
        exact ⟨by exact bel_by,.inr ⟨b7,_,2,HE.out,rfl,hi7⟩⟩
       ·have HE:=hide (show encGo (f.data.toList.drop (i+1)) (l.drop (i+1)) (i+1) (out++(putF x).2)=encS m l from by
         rw [←hgo2.out,hgo.out,if_pos ⟨hch,hp⟩,if_pos he,if_neg hL])
        rw [he] at HPu
        generalize (putF x).2=bb at HPu hL hpl HE
        have hL1:¬ (32768:Int)<((bs (out++bb)).size:Int):=by rw [bs_size];omega
        have hL2:¬ (32768:Int)<(out.length:Int)+(bb.length:Int):=by rw [List.length_append] at hL;omega
        have hL3:¬ (32768:Int)<((out.length+bb.length:Nat):Int):=by omega
        have HL9:=hide (Nat.le_of_not_lt hL)
        have hbn:=Hbx.out.2.1
        clear hgo hgo2 hp hch he hL Hol
        go_wp2_with (first
         | (go_at_call 119;refine (HPl.out _).mono ?_;rintro e w4 ⟨rfl,hb4⟩;obtain ⟨y0,y1,y2,y3⟩:=box4' hb4;have hbx4:=Blk.below ((Hbx.out.1).alloc (.cells #[.int .u8 x.k,.int .i64 x.n,.string (bs x.s),.slice A2 x.l.length c2] 60)) hb4 (by simp;omega))
         | (go_at_call 120;refine (HPu.out _ (by exact bel_by)).mono ?_;rintro e w9 ⟨rfl,hb9⟩;have z0:=(hbx4.below hb9 hbx4.lt).cell 0;simp only [List.getElem?_toArray,List.getElem?_cons_zero] at z0)
         | fail)
        have hbw9:Below wn.heap.size wn w9:=by exact bel_by
        have hit9:w9.heap[B]?=some (.stringIter f (i+1)):=(hbw9.block B (Array.getElem?_eq_some_iff.1 Hbx.out.2.2.1).1).trans Hbx.out.2.2.1
        refine ⟨⟨i+1,out++bb,rfl,by omega,hide ⟨by exact bel_by,hit9,hbx4.below hb9 hbx4.lt,HE.out,HL9.out⟩⟩,?_⟩
        rw [iterPos_of hit9,Hip.out]
        omega
      ·have HE:=hide (show encErr m (encS m l)=some ([(word (m:Int)).data.toList,Lib.decDigits i],(putF x).1) from by
        rw [←hgo2.out,hgo.out,if_pos ⟨hch,hp⟩,if_neg he]
        rfl)
       have HOf:=hide (fun W=>fof_any ⟨(Lib.decDigits i).toArray⟩ ((putF x).1:Nat) (by rw [beq_eq_false_iff_ne];omega) W)
       unfold errV at HOf
       have ee:((((putF x).1:Nat):Int) == 0)=false:=by rw [beq_eq_false_iff_ne];omega
       have ee2:((((putF x).1:Nat):Int) != 0)=true:=by simp [bne,ee]
       unfold PutP at HPu
       generalize putF x=pp at HE HOf ee ee2 HPu
       have hbn:=Hbx.out.2.1
       clear hgo hgo2 hp hch he Hol
       go_wp2_with (first
       | (go_at_call 119;refine (HPl.out _).mono ?_;rintro e w4 ⟨rfl,hb4⟩;obtain ⟨y0,y1,y2,y3⟩:=box4' hb4;have hbx4:=Blk.below ((Hbx.out.1).alloc (.cells #[.int .u8 x.k,.int .i64 x.n,.string (bs x.s),.slice A2 x.l.length c2] 60)) hb4 (by simp;omega))
       | (go_at_call 120;refine (HPu.out _ (by exact bel_by)).mono ?_;rintro e w9 ⟨rfl,hb9⟩;have z0:=(hbx4.below hb9 hbx4.lt).cell 0;simp only [List.getElem?_toArray,List.getElem?_cons_zero] at z0)
       | (go_at_call 48;refine (HW.out _).mono ?_;rintro e w5 ⟨rfl,rfl⟩) | (go_at_call 93;refine (HIt.out _).mono ?_;rintro e w6 ⟨rfl,rfl⟩) | (go_at_call 43;refine (HOf.out _).mono ?_;rintro e w7 ⟨b7,rfl,hi7,hb7⟩) | (go_at_call 47;refine (HAt.out _ _ _ _ hi7).mono ?_;rintro e w8 ⟨b8,rfl,hi8,hb8⟩) | fail)
       go_ret2
       exact ⟨by exact bel_by,.inr ⟨b8,_,pp.1,HE.out,rfl,hi8⟩⟩
    ·have ek:((x.k:Int) == (ch:Int))=false:=i_ne hch
     have HE:=hide (show encErr m (encS m l)=some ([(word (m:Int)).data.toList,Lib.decDigits i],3) from by
      rw [←hgo2.out,hgo.out,if_neg (fun h9=>hch h9.1)]
      rfl)
     have HOf:=hide (fun W=>fof_any ⟨(Lib.decDigits i).toArray⟩ 3 (by decide) W)
     unfold errV at HOf
     have hbn:=Hbx.out.2.1
     clear HPl HPu hgo hgo2 hch
     go_wp2_with (first
      | (go_at_call 48;refine (HW.out _).mono ?_;rintro e w5 ⟨rfl,rfl⟩) | (go_at_call 93;refine (HIt.out _).mono ?_;rintro e w6 ⟨rfl,rfl⟩) | (go_at_call 43;refine (HOf.out _).mono ?_;rintro e w7 ⟨b7,rfl,hi7,hb7⟩) | (go_at_call 47;refine (HAt.out _ _ _ _ hi7).mono ?_;rintro e w8 ⟨b8,rfl,hi8,hb8⟩) | fail)
     go_ret2
     exact ⟨by exact bel_by,.inr ⟨b8,_,3,HE.out,rfl,hi8⟩⟩
   ·have hil:i=l.length:=by omega
    subst hil
    have hnx:∀ty,(Instr.next (.pointer (some ⟨B,0,none⟩)) true ty).run Tryz.prog wr=_:=fun ty=>Lib.run_next_end_at wr B f l.length ty hit (by rw [Hsz.out];exact hlt)
    have HE:=hide (show encS m l=.ok out from by
     rw [←HI.out.go,List.drop_of_length_le (by omega)]
     rfl)
    have hbw:=HI.out.bel
    clear hit hip HI
    go_wp2_with fail
    go_ret2
    exact ⟨hbw,.inl ⟨out,HE.out,rfl⟩⟩
end
end Go.Proofs.YtnhekaepgpbijaaGreatDoor

namespace Go.Proofs.YtnhekaepgpbijaaGreatDoor
open Go.RowKit
def atL (ps:List (List UInt8)):List UInt8:=(ps.map (·++[32])).flatten
theorem atL_len {ps:List (List UInt8)} (h:∀p∈ps,p.length≤1000):(atL ps).length≤ps.length*1001:=by
 unfold atL
 induction ps with
 | nil=>simp
 | cons x l ih =>
  have h1:=h x (by simp)
  have h2:=ih (fun y hy=>h y (by simp [hy]))
  simp only [List.map_cons,List.flatten_cons,List.length_append,List.length_cons,List.length_nil]
  omega
end Go.Proofs.YtnhekaepgpbijaaGreatDoor

namespace Go.Proofs.YtnhekaepgpbijaaGreatDoor
open Go.RowKit Go.ChangeShapes Go.WideShapes Go.Sort
def FewF (x:Fld):Prop:=x.l.length≤20∧x.s.length≤2000∧∀y∈x.l,y.length≤2000
theorem FewF.sz {x:Fld} (h:FewF x):SzF x:=⟨by have:=h.2.1;omega,by have:=h.1;omega,fun y hy=>by have:=h.2.2 y hy;omega⟩
theorem FewF.fit {x:Fld} (h:FewF x):fitF x:=⟨by have:=h.2.1;omega,fun y hy=>by have:=h.2.2 y hy;omega⟩
def FewP (l:List Fld) (w:World) (e:Ending) (w':World):Prop:=∃b,e=.returned (.bool b)∧Below w.heap.size w w'∧(b=true→l.length≤20∧∀x∈l,FewF x)
theorem FewP.no {l:List Fld} {w w':World} (h:Below w.heap.size w w'):FewP l w (.returned (.bool false)) w':=⟨false,rfl,h,fun h=>by cases h⟩
section
variable {w : World}
theorem flds_one {W:World} {b k:Nat} {n:Int} {s:List UInt8} (h:Blk W b 60 #[.int .u8 k,.int .i64 n,.string (bs s),.slice none 0 0]) (hk:k<256):Flds W (some ⟨b,0,none⟩) [⟨k,n,s,[]⟩]:=by
 refine ⟨fun i x hx=>?_⟩
 cases i with
 | succ i=>simp at hx
 | zero =>
  simp only [List.getElem?_cons_zero,Option.some.injEq] at hx
  subst hx
  refine ⟨⟨b,0,none⟩,.slice none 0 0,rfl,h.lt,?_⟩
  rw [Nat.zero_mul,add_zero_]
  exact ⟨h.cell 0,h.cell 1,h.cell 2,h.cell 3,txc_nil W 0,hk⟩
end
section
variable {w : World}
theorem rright_any (s:ByteArray) (hs:s.size≤9223372036854775807) (w:World):Calls Tryz.prog 70 #[.string s] w (fun e w'=>e=.returned (.bool (rightL s.data.toList))∧w'=w):=by
 go_enter Tryz.func70,Tryz.ntmps70
 go_wp2_with fail
 go_loop [3] (fun i=>∃k:Nat,k≤s.size∧i=.int .i64 k∧Hid (∀c∈s.data.toList.take k,33≤c.toNat∧c.toNat≤126∧c≠44)) (fun i=>s.size - (intOf i).toNat)
 case atStart=>exact ⟨0,Nat.zero_le _,rfl,hide (by simp)⟩
 case round =>
  obtain ⟨k,hk,rfl,H⟩:=hrel
  by_cases hlt:k<s.size
  ·by_cases h1:s[k].toNat<33
   ·have h1':(s[k].toNat:Int)<33:=by omega
    have E:=hide (rightL_no (mem_toList hlt) (.inl h1))
    go_wp2_with fail
    go_ret
    exact ⟨by rw [E.out];rfl,rfl⟩
   ·have h1':¬ (s[k].toNat:Int)<33:=by omega
    by_cases h2:126<s[k].toNat
    ·have h2':(126:Int)<s[k].toNat:=by omega
     have E:=hide (rightL_no (mem_toList hlt) (.inr (.inl h2)))
     go_wp2_with fail
     go_ret
     exact ⟨by rw [E.out];rfl,rfl⟩
    ·have h2':¬ (126:Int)<s[k].toNat:=by omega
     by_cases h3:s[k]=44
     ·have h3':((s[k].toNat:Int) == 44)=true:=by rw [h3];rfl
      have E:=hide (rightL_no (mem_toList hlt) (.inr (.inr h3)))
      clear h3
      go_wp2_with fail
      go_ret
      exact ⟨by rw [E.out];rfl,rfl⟩
     ·have h9:s[k].toNat≠44:=fun e=>h3 (UInt8.toNat_inj.1 (by simpa using e))
      have h3':((s[k].toNat:Int) == 44)=false:=by rw [beq_eq_false_iff_ne];omega
      have H2:=hide (all_take hlt H.out ⟨Nat.le_of_not_lt h1,Nat.le_of_not_lt h2,h3⟩)
      clear H h3 h9
      go_wp2_with fail
      go_round
      case rel=>exact ⟨k+1,hlt,by go_num,H2⟩
      case measure=>simp [intOf];omega
  ·have E:=hide (rightL_yes (all_full hlt H.out))
   have hl2:s.data.toList.length=s.size:=rfl
   rw [hl2] at E
   clear H hl2
   by_cases h0:1≤s.size
   ·have h0':(1:Int)≤s.size:=by omega
    by_cases h64:s.size≤64
    ·have h64':(s.size:Int)≤64:=by omega
     go_wp2_with fail
     go_ret
     refine ⟨?_,rfl⟩
     rw [E.out,decide_eq_true h0,decide_eq_true h64]
     rfl
    ·have h64':¬ (s.size:Int)≤64:=by omega
     go_wp2_with fail
     go_ret
     refine ⟨?_,rfl⟩
     rw [E.out,decide_eq_true h0,decide_eq_false h64]
     rfl
   ·have h0':¬ (1:Int)≤s.size:=by omega
    go_wp2_with fail
    go_ret
    refine ⟨?_,rfl⟩
    rw [E.out,decide_eq_false h0]
    rfl

end
section
variable {w : World}
theorem get07_out (num i:Int) {A:Option Addr} {n c:Nat} (w:World) (h:i<0∨(n:Int)≤i):Calls Tryz.prog 108 #[.agg #[.int .i64 num,.slice A n c],.int .i64 i] w (fun e w'=>e=.returned (.agg #[.int .u8 0,.int .i64 0,.string ⟨#[]⟩,.slice none 0 0])∧Below w.heap.size w w'):=by
 by_cases h0:i<0
 ·clear h
  go_enter Tryz.func108,Tryz.ntmps108
  go_wp2_with fail
  exact bodyPost_ret (v:=.agg #[.int .u8 0,.int .i64 0,.string ⟨#[]⟩,.slice none 0 0]) (by simp [results,Tryz.results108,go_sem]) rfl ⟨rfl,by exact bel_by⟩
 ·have h1:(n:Int)≤i:=by omega
  clear h
  go_enter Tryz.func108,Tryz.ntmps108
  go_wp2_with fail
  exact bodyPost_ret (v:=.agg #[.int .u8 0,.int .i64 0,.string ⟨#[]⟩,.slice none 0 0]) (by simp [results,Tryz.results108,go_sem]) rfl ⟨rfl,by exact bel_by⟩
theorem blk_new2G (w:World) (o:Obj) (t:TypeId) (cs:Array Value):Blk ((w.alloc o).alloc (.cells cs t)) (w.heap.size+1) t cs:=by
 have:=Blk.new (w.alloc o) t cs
 simpa using this
theorem fin4G {w:World} {r:Nat} {t:TypeId} {o0 o1 o2 o3:Value} (h:Blk w r t #[o0,o1,o2,o3]) (v0 v1 v2 v3:Value) :
  Blk ((((w.setCell ⟨r,0,none⟩ v0).setCell ⟨r,1,none⟩ v1).setCell ⟨r,2,none⟩ v2).setCell ⟨r,3,none⟩ v3) r t #[v0,v1,v2,v3]:=by
 have h1:=(((h.set_ 0 v0).set_ 1 v1).set_ 2 v2).set_ 3 v3
 simpa using h1
theorem bel4G {B:Nat} {w0 w:World} {g:Nat} (hb:Below B w0 w) (hg:B≤g) (v0 v1 v2 v3:Value):Below B w0 ((((w.setCell ⟨g,0,none⟩ v0).setCell ⟨g,1,none⟩ v1).setCell ⟨g,2,none⟩ v2).setCell ⟨g,3,none⟩ v3) :=
 (((hb.setCell (p:=⟨g,0,none⟩) hg v0).setCell (p:=⟨g,1,none⟩) hg v1).setCell (p:=⟨g,2,none⟩) hg v2).setCell (p:=⟨g,3,none⟩) hg v3
def At4 (w:World) (p:Addr) (x:Fld) (lv:Value):Prop:=w.cell? p=some (.int .u8 x.k)∧w.cell? ⟨p.block,p.off+1,none⟩=some (.int .i64 x.n)∧w.cell? ⟨p.block,p.off+2,none⟩=some (.string (bs x.s))∧w.cell? ⟨p.block,p.off+3,none⟩=some lv
theorem At4.below {w w':World} {p:Addr} {x:Fld} {lv:Value} (h:At4 w p x lv) (hb:Below w.heap.size w w'):At4 w' p x lv:=by
 have hlt:=cell_ltO h.1
 exact ⟨(hb.cell hlt).trans h.1,(hb.cell (p:=⟨p.block,p.off+1,none⟩) hlt).trans h.2.1,(hb.cell (p:=⟨p.block,p.off+2,none⟩) hlt).trans h.2.2.1,(hb.cell (p:=⟨p.block,p.off+3,none⟩) hlt).trans h.2.2.2⟩
theorem get07_in (num:Int) (j:Nat) {ad:Addr} {n c:Nat} (h:j<n) (hn:n≤20) (x:Fld) {A2:Option Addr} {c2:Nat} (hq:At4 w (ad.add (j*4)) x (.slice A2 x.l.length c2)) :
  Calls Tryz.prog 108 #[.agg #[.int .i64 num,.slice (some ad) n c],.int .i64 j] w (fun ev w'=>ev=.returned (fldV x (.slice A2 x.l.length c2))∧Below w.heap.size w w'):=by
 obtain ⟨W0,hW0⟩:∃W0,W0=(w.alloc (.cells #[.int .i64 num,.slice (some ad) n c] 55)).alloc (.cells #[.int .u8 0,.int .i64 0,.string ⟨#[]⟩,.slice none 0 0] 60):=⟨_,rfl⟩
 have hb0:Below w.heap.size w W0:=by rw [hW0];exact bel_by
 have hM0:Blk W0 w.heap.size 55 #[.int .i64 num,.slice (some ad) n c]:=by rw [hW0];exact (Blk.new w _ _).alloc _
 have hR0:Blk W0 (w.heap.size+1) 60 #[.int .u8 0,.int .i64 0,.string ⟨#[]⟩,.slice none 0 0]:=by rw [hW0];exact blk_new2G w _ _ _
 obtain ⟨q0,q1,q2,q3⟩:=hq.below hb0
 have m1:=hM0.cell 1
 have r0:=hR0.cell 0
 have r1:=hR0.cell 1
 have r2:=hR0.cell 2
 have r3:=hR0.cell 3
 have t0:=hR0.frozen 0
 have t1:=hR0.frozen 1
 have t2:=hR0.frozen 2
 have t3:=hR0.frozen 3
 simp at m1 r0 r1 r2 r3
 have hj0:¬ (j:Int)<0:=by omega
 have hjn:(j:Int)<n:=by omega
 have hF:=hide (fin4G hR0 (.int .u8 x.k) (.int .i64 x.n) (.string (bs x.s)) (.slice A2 x.l.length c2))
 have Hb:=hide (bel4G hb0 (Nat.le_succ w.heap.size) (.int .u8 x.k) (.int .i64 x.n) (.string (bs x.s)) (.slice A2 x.l.length c2))
 clear hb0 hM0 hR0 hq
 unfold fldV
 go_enter Tryz.func108,Tryz.ntmps108
 go_upto_region 1 with fail
 rw [←hW0]
 clear hW0
 go_wp2_with fail
 have hF:=hF.out
 generalize ((((W0.setCell ⟨w.heap.size+1,0,none⟩ (.int .u8 x.k)).setCell ⟨w.heap.size+1,1,none⟩ (.int .i64 x.n)).setCell ⟨w.heap.size+1,2,none⟩ (.string (bs x.s))).setCell ⟨w.heap.size+1,3,none⟩ (.slice A2 x.l.length c2))=wF at hF Hb ⊢
 have p0:=hF.cell 0
 have p1:=hF.cell 1
 have p2:=hF.cell 2
 have p3:=hF.cell 3
 simp at p0 p1 p2 p3
 exact bodyPost_ret (v:=.agg #[.int .u8 x.k,.int .i64 x.n,.string (bs x.s),.slice A2 x.l.length c2]) (by simp [results,Tryz.results108,go_sem,p0,p1,p2,p3]) rfl ⟨rfl,Hb.out⟩
end
end Go.Proofs.YtnhekaepgpbijaaGreatDoor
