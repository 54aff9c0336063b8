/- Several of my texts in one: CfB, CfC. -/
import Derived.Test.YtnhekaepgpbijaaGreatDoorHPayMG
import Derived.Test.YtnhekaepgpbijaaGreatDoorHParseAG
set_option linter.unusedVariables false
set_option linter.unusedSimpArgs false
set_option maxHeartbeats 40000000
set_option maxRecDepth 100000
namespace Go.Proofs.YtnhekaepgpbijaaGreatDoor
open Go.RowKit Go.ChangeShapes Go.WideShapes Go.Sort
def sshA:ByteArray:=⟨#[83,83,72,45,50,46,48,45]⟩
theorem verL_none (cm:List UInt8):verL [] cm=[]:=by unfold verL;rw [if_pos (.inl rfl)]
theorem verL_blank {sw cm:List UInt8} (h:blankL sw=true):verL sw cm=[]:=by unfold verL;rw [if_pos (.inr h)]
theorem verL_of {sw cm:List UInt8} (h0:sw≠[]) (h:blankL sw=false):verL sw cm=if lineL (sshB++sw++cmtL cm)=true then sshB++sw++cmtL cm else []:=by
 unfold verL
 rw [if_neg (by rw [h];rintro (e | e);exact h0 e;cases e)]
def verE (sw cm:List UInt8):Int:=if verL sw cm=[] then 1 else 0
theorem ver_data1 (s:ByteArray):(sshA++s).data.toList=sshB++s.data.toList++cmtL []:=by
 rw [data_append,List.append_assoc]
 unfold cmtL
 rw [if_pos rfl,List.append_nil]
 rfl
theorem ver_data2 {s t:ByteArray} (h:t≠⟨#[]⟩):(sshA++s++((⟨#[32]⟩:ByteArray)++t)).data.toList=sshB++s.data.toList++cmtL t.data.toList:=by
 rw [data_append,data_append,data_append]
 unfold cmtL
 rw [if_neg (fun e=>h (toList_inj e))]
 rfl
section
variable {w : World}
theorem lplain_any (n:Nat) (w:World) (hn:n<256):Calls Tryz.prog 322 #[.int .u8 n] w fun e w'=>e=.returned (.bool (decide (32≤n) && decide (n≤126)))∧w'=w:=by
 go_enter Tryz.func322,Tryz.ntmps322
 go_wp2
 all_goals (go_ret;refine ⟨ret_bool ?_,rfl⟩;(first | (simp_all;done) | (simp_all;omega) | (rw [Bool.eq_iff_iff];simp_all;done) | (rw [Bool.eq_iff_iff];simp_all;omega)))
theorem lall_any (s:ByteArray) (hs:s.size≤9223372036854775807) (w:World):Calls Tryz.prog 303 #[.string s] w (fun e w'=>e=.returned (.bool (lineL s.data.toList))∧w'=w):=by
 have hl2:s.data.toList.length=s.size:=rfl
 go_enter Tryz.func303,Tryz.ntmps303
 go_wp2_with fail
 go_loop [6] (fun i=>∃k:Nat,k≤s.size∧i=.int .i64 k∧Hid (∀c∈s.data.toList.take k,32≤c.toNat∧c.toNat≤126)) (fun i=>s.size - (intOf i).toNat)
 case atStart=>exact ⟨0,Nat.zero_le _,rfl,hide (by simp)⟩
 case round =>
  obtain ⟨k,hk,rfl,H⟩:=hrel
  by_cases hlt:k<s.size
  ·have HP:=hide (lplain_any s[k].toNat w (by have:=s[k].toNat_lt;omega))
   by_cases h1:32≤s[k].toNat∧s[k].toNat≤126
   ·rw [decide_eq_true h1.1,decide_eq_true h1.2,Bool.and_self] at HP
    have H2:=hide (all_take hlt H.out h1)
    clear H h1
    go_wp2_with (go_at_call 322;refine HP.out.mono ?_;rintro e w1 ⟨rfl,rfl⟩)
    go_round
    case rel=>exact ⟨k+1,hlt,by go_num,H2⟩
    case measure=>simp [intOf];omega
   ·have h2:s[k].toNat<32∨126<s[k].toNat:=by omega
    have h3:(decide (32≤s[k].toNat) && decide (s[k].toNat≤126))=false:=by
     rw [Bool.and_eq_false_iff,decide_eq_false_iff_not,decide_eq_false_iff_not];omega
    rw [h3] at HP
    have E:=hide (show lineL s.data.toList=false from by unfold lineL;rw [betw_no (mem_toList hlt) h2];rfl)
    clear h1 h2 h3 H
    go_wp2_with (go_at_call 322;refine HP.out.mono ?_;rintro e w1 ⟨rfl,rfl⟩)
    go_ret
    exact ⟨by rw [E.out];rfl,rfl⟩
  ·have E:=hide (betw_yes (all_full hlt H.out))
   clear H
   by_cases h64:s.size≤253
   ·have h64':(s.size:Int)≤253:=by omega
    go_wp2_with fail
    go_ret
    refine ⟨?_,rfl⟩
    unfold lineL
    rw [E.out,hl2,decide_eq_true h64]
    rfl
   ·have h64':¬ (s.size:Int)≤253:=by omega
    go_wp2_with fail
    go_ret
    refine ⟨?_,rfl⟩
    unfold lineL
    rw [E.out,hl2,decide_eq_false h64]
    rfl
theorem r10plain_any (s:ByteArray) (hs:s.size≤9223372036854775807) (w:World):Calls Tryz.prog 275 #[.string s] w (fun e w'=>e=.returned (.bool (betw 32 126 s.data.toList))∧w'=w):=by
 go_enter Tryz.func275,Tryz.ntmps275
 go_wp2_with fail
 go_loop [3] (fun i=>∃k:Nat,k≤s.size∧i=.int .i64 k∧Hid (∀c∈s.data.toList.take k,32≤c.toNat∧c.toNat≤126)) (fun i=>s.size - (intOf i).toNat)
 case atStart=>exact ⟨0,Nat.zero_le _,rfl,hide (by simp)⟩
 case round =>
  obtain ⟨k,hk,rfl,H⟩:=hrel
  by_cases hlt:k<s.size
  ·have hlt':(k:Int)<s.size:=by omega
   by_cases h1:s[k].toNat<32
   ·have h1':(s[k].toNat:Int)<32:=by omega
    have E:=hide (betw_no (a:=32) (b:=126) (mem_toList hlt) (.inl h1))
    go_wp2_with fail
    go_ret
    exact ⟨by rw [E.out];rfl,rfl⟩
   ·have h1':¬ (s[k].toNat:Int)<32:=by omega
    by_cases h2:126<s[k].toNat
    ·have h2':(126:Int)<s[k].toNat:=by omega
     have E:=hide (betw_no (a:=32) (b:=126) (mem_toList hlt) (.inr h2))
     go_wp2_with fail
     go_ret
     exact ⟨by rw [E.out];rfl,rfl⟩
    ·have h2':¬ (126:Int)<s[k].toNat:=by omega
     have H2:=hide (all_take hlt H.out ⟨Nat.le_of_not_lt h1,Nat.le_of_not_lt h2⟩)
     clear H
     go_wp2_with fail
     go_round
     case rel=>exact ⟨k+1,hlt,by go_num,H2⟩
     case measure=>simp [intOf];omega
  ·have hlt':¬ (k:Int)<s.size:=by omega
   have E:=hide (betw_yes (all_full hlt H.out))
   clear H
   go_wp2_with fail
   go_ret
   exact ⟨by rw [E.out];rfl,rfl⟩
theorem r10blank_any (s:ByteArray) (hs:s.size≤9223372036854775807) (w:World):Calls Tryz.prog 274 #[.string s] w (fun e w'=>(∃i:Int,e=.returned (.int .i64 i)∧decide (0≤i)=blankL s.data.toList)∧w'=w):=by
 go_enter Tryz.func274,Tryz.ntmps274
 go_wp2_with fail
 go_loop [3] (fun i=>∃k:Nat,k≤s.size∧i=.int .i64 k∧Hid (∀c∈s.data.toList.take k,c≠32)) (fun i=>s.size - (intOf i).toNat)
 case atStart=>exact ⟨0,Nat.zero_le _,rfl,hide (by simp)⟩
 case round =>
  obtain ⟨k,hk,rfl,H⟩:=hrel
  by_cases hlt:k<s.size
  ·have hlt':(k:Int)<s.size:=by omega
   by_cases h1:s[k]=32
   ·have h1':((s[k].toNat:Int) == 32)=true:=by rw [h1];rfl
    have E:=hide (show blankL s.data.toList=true from by unfold blankL;rw [List.contains_iff_mem];exact h1 ▸ mem_toList hlt)
    clear h1
    go_wp2_with fail
    go_ret
    exact ⟨⟨k,rfl,by rw [E.out];exact decide_eq_true (by omega)⟩,rfl⟩
   ·have h1':((s[k].toNat:Int) == 32)=false:=by
     rw [beq_eq_false_iff_ne]
     intro e
     have:s[k].toNat=32:=by omega
     exact h1 (UInt8.toNat_inj.1 this)
    have H2:=hide (all_take hlt H.out h1)
    clear H h1
    go_wp2_with fail
    go_round
    case rel=>exact ⟨k+1,hlt,by go_num,H2⟩
    case measure=>simp [intOf];omega
  ·have hlt':¬ (k:Int)<s.size:=by omega
   have E:=hide (show blankL s.data.toList=false from by
    cases hc:blankL s.data.toList with
    | false=>rfl
    | true=>exact absurd rfl (all_full hlt H.out 32 (List.contains_iff_mem.1 (by unfold blankL at hc;exact hc))))
   clear H
   go_wp2_with fail
   go_ret
   exact ⟨⟨-1,rfl,by rw [E.out];rfl⟩,rfl⟩
--BEGIN
theorem verE_no {L D:List UInt8} (h:verL L D=[]):verE L D=1:=by unfold verE;rw [if_pos h]
theorem verE_yes {L D:List UInt8} {x:List UInt8} (_h:verL L D=x) (h2:verL L D≠[]):verE L D=0:=by unfold verE;rw [if_neg h2]
theorem ver_ne {S:ByteArray} (h:8≤S.size):S.data.toList≠[]:=fun e=>by
 have h2:=congrArg List.length e
 have h3:S.data.toList.length=S.size:=rfl
 simp only [List.length_nil] at h2
 omega
theorem contains_blank (l:List UInt8):decide (0≤Lib.indexByte l 32)=blankL l:=contains_byte l 32
theorem size_pos {s:ByteArray} (h:s≠⟨#[]⟩):0<s.size:=by
 rcases Nat.eq_zero_or_pos s.size with h9 | h9
 ·exact absurd (toList_inj (List.eq_nil_of_length_eq_zero (show s.data.toList.length=0 from h9))) h
 ·exact h9
theorem ver_data2r {s t:ByteArray} (h:t≠⟨#[]⟩):(sshA++s++(⟨#[32]⟩:ByteArray)++t).data.toList=sshB++s.data.toList++cmtL t.data.toList:=by
 rw [←ver_data2 (s:=s) h,data_append,data_append,data_append,data_append,data_append]
 simp
theorem lmake_any {sw cm:ByteArray} (h1:sw.size≤1000000) (h2:cm.size≤1000000) (w:World):Calls Tryz.prog 271 #[.string sw,.string cm] w (fun e w'=>e=.returned (.tuple #[.string (bs (verL sw.data.toList cm.data.toList)),.int .i64 (verE sw.data.toList cm.data.toList)])∧w'=w):=by
 have hsz:(sshA++sw).size≤9223372036854775807:=by rw [ByteArray.size_append];have:sshA.size=8:=rfl;omega
 have hsz2:(sshA++sw++((⟨#[32]⟩:ByteArray)++cm)).size≤9223372036854775807:=by rw [ByteArray.size_append,ByteArray.size_append,ByteArray.size_append];have:sshA.size=8:=rfl;have:(⟨#[32]⟩:ByteArray).size=1:=rfl;omega
 obtain ⟨L,hL⟩:∃L,sw.data.toList=L:=⟨_,rfl⟩
 obtain ⟨D,hD⟩:∃D,cm.data.toList=D:=⟨_,rfl⟩
 rw [hL,hD]
 by_cases h0:sw=⟨#[]⟩
 ·subst h0
  have E:=hide (show verL L D=[] from by rw [←hL];exact verL_none D)
  have E2:=hide (show verE L D=1 from verE_no E.out)
  have hq1:8+(⟨#[]⟩:ByteArray).size≤9223372036854775807:=by omega
  have hq2:1+cm.size≤9223372036854775807:=by omega
  have hq3:8+(⟨#[]⟩:ByteArray).size+(1+cm.size)≤9223372036854775807:=by omega
  clear hsz hsz2 hL hD h1 h2
  go_enter Tryz.func271,Tryz.ntmps271
  go_wp2_with (first | fail | fail)
  go_ret2
  exact ⟨by rw [E2.out,E.out];rfl,rfl⟩
 ·have hne:=bytes_ne h0
  have hne2:=bytes_some h0
  have hn0:L≠[]:=fun e=>h0 (toList_inj (hL.trans e))
  have HC:=hide (fun W=>Tryz.strings_Contains_one sw 32 W)
  rw [contains_blank,hL] at HC
  cases hb:blankL L with
  | true =>
   have E:=hide (verL_blank (cm:=D) hb)
   rw [hb] at HC
   clear hb hn0
   have E2:=hide (show verE L D=1 from verE_no E.out)
   have hq1:8+sw.size≤9223372036854775807:=by omega
   have hq2:1+cm.size≤9223372036854775807:=by omega
   have hq3:8+sw.size+(1+cm.size)≤9223372036854775807:=by omega
   clear hsz hsz2 hL hD h1 h2
   go_enter Tryz.func271,Tryz.ntmps271
   go_wp2_with (first | (go_at_call 302;refine (HC.out _).mono ?_;rintro e w1 ⟨rfl,rfl⟩) | fail)
   go_ret2
   exact ⟨by rw [E2.out,E.out];rfl,rfl⟩
  | false =>
   have HV:=hide (verL_of (cm:=D) hn0 hb)
   rw [hb] at HC
   clear hb hn0
   by_cases hc:cm=⟨#[]⟩
   ·subst hc
    have HD:=hide (show (sshA++sw).data.toList=sshB++L++cmtL D from by rw [←hL,← hD];exact ver_data1 sw)
    have hsS:(sshA++sw).data.toList.length=(sshA++sw).size:=rfl
    have HP:=hide (lall_any (sshA++sw) hsz w)
    cases hLL:lineL (sshA++sw).data.toList with
    | false =>
     rw [hLL] at HP
     unfold sshA at HP
     have E:=hide (show verL L D=[] from by rw [HV.out,← HD.out,if_neg (by rw [hLL];decide)])
     have E2:=hide (show verE L D=1 from verE_no E.out)
     clear HV HD hLL hsS
     have hq1:8+sw.size≤9223372036854775807:=by omega
     have hq2:1+(⟨#[]⟩:ByteArray).size≤9223372036854775807:=by omega
     have hq3:8+sw.size+(1+(⟨#[]⟩:ByteArray).size)≤9223372036854775807:=by omega
     clear hsz hsz2 hL hD h1 h2
     go_enter Tryz.func271,Tryz.ntmps271
     go_wp2_with (first | (go_at_call 302;refine (HC.out _).mono ?_;rintro e w1 ⟨rfl,rfl⟩) | (go_at_call 303;refine HP.out.mono ?_;rintro e w2 ⟨rfl,rfl⟩) | fail)
     go_ret2
     exact ⟨by rw [E2.out,E.out];rfl,rfl⟩
    | true =>
     rw [hLL] at HP
     unfold sshA at HP
     have E:=hide (show verL L D=(sshA++sw).data.toList from by rw [HV.out,← HD.out,if_pos hLL])
     have hne8:verL L D≠[]:=by rw [E.out];exact ver_ne (by rw [ByteArray.size_append];have:sshA.size=8:=rfl;omega)
     have E2:=hide (show verE L D=0 from verE_yes E.out hne8)
     clear HV HD hLL hsS hne8
     have hq1:8+sw.size≤9223372036854775807:=by omega
     have hq2:1+(⟨#[]⟩:ByteArray).size≤9223372036854775807:=by omega
     have hq3:8+sw.size+(1+(⟨#[]⟩:ByteArray).size)≤9223372036854775807:=by omega
     clear hsz hsz2 hL hD h1 h2
     go_enter Tryz.func271,Tryz.ntmps271
     go_wp2_with (first | (go_at_call 302;refine (HC.out _).mono ?_;rintro e w1 ⟨rfl,rfl⟩) | (go_at_call 303;refine HP.out.mono ?_;rintro e w2 ⟨rfl,rfl⟩) | fail)
     go_ret2
     exact ⟨by rw [E2.out,E.out];rfl,rfl⟩
   ·have hcn:=bytes_ne hc
    have hcn2:=bytes_some hc
    have HD:=hide (show (sshA++sw++((⟨#[32]⟩:ByteArray)++cm)).data.toList=sshB++L++cmtL D from by rw [←hL,← hD];exact ver_data2 hc)
    have hsS:(sshA++sw++((⟨#[32]⟩:ByteArray)++cm)).data.toList.length=(sshA++sw++((⟨#[32]⟩:ByteArray)++cm)).size:=rfl
    have HP:=hide (lall_any (sshA++sw++((⟨#[32]⟩:ByteArray)++cm)) hsz2 w)
    cases hLL:lineL (sshA++sw++((⟨#[32]⟩:ByteArray)++cm)).data.toList with
    | false =>
     rw [hLL] at HP
     unfold sshA at HP
     have E:=hide (show verL L D=[] from by rw [HV.out,← HD.out,if_neg (by rw [hLL];decide)])
     have E2:=hide (show verE L D=1 from verE_no E.out)
     clear HV HD hLL hsS
     have hq1:8+sw.size≤9223372036854775807:=by omega
     have hq2:1+cm.size≤9223372036854775807:=by omega
     have hq3:8+sw.size+(1+cm.size)≤9223372036854775807:=by omega
     clear hsz hsz2 hL hD h1 h2
     go_enter Tryz.func271,Tryz.ntmps271
     go_wp2_with (first | (go_at_call 302;refine (HC.out _).mono ?_;rintro e w1 ⟨rfl,rfl⟩) | (go_at_call 303;refine HP.out.mono ?_;rintro e w2 ⟨rfl,rfl⟩) | fail)
     go_ret2
     exact ⟨by rw [E2.out,E.out];rfl,rfl⟩
    | true =>
     rw [hLL] at HP
     unfold sshA at HP
     have E:=hide (show verL L D=(sshA++sw++((⟨#[32]⟩:ByteArray)++cm)).data.toList from by rw [HV.out,← HD.out,if_pos hLL])
     have hne8:verL L D≠[]:=by rw [E.out];exact ver_ne (by rw [ByteArray.size_append,ByteArray.size_append,ByteArray.size_append];have:sshA.size=8:=rfl;omega)
     have E2:=hide (show verE L D=0 from verE_yes E.out hne8)
     clear HV HD hLL hsS hne8
     have hq1:8+sw.size≤9223372036854775807:=by omega
     have hq2:1+cm.size≤9223372036854775807:=by omega
     have hq3:8+sw.size+(1+cm.size)≤9223372036854775807:=by omega
     clear hsz hsz2 hL hD h1 h2
     go_enter Tryz.func271,Tryz.ntmps271
     go_wp2_with (first | (go_at_call 302;refine (HC.out _).mono ?_;rintro e w1 ⟨rfl,rfl⟩) | (go_at_call 303;refine HP.out.mono ?_;rintro e w2 ⟨rfl,rfl⟩) | fail)
     go_ret2
     exact ⟨by rw [E2.out,E.out];rfl,rfl⟩
theorem rmake_any {sw cm:ByteArray} (h1:sw.size≤1000000) (h2:cm.size≤1000000) (w:World):Calls Tryz.prog 227 #[.string sw,.string cm] w (fun e w'=>e=.returned (.tuple #[.string (bs (verL sw.data.toList cm.data.toList)),.bool (decide (verE sw.data.toList cm.data.toList=0))])∧w'=w):=by
 have hsz:(sshA++sw).size≤9223372036854775807:=by rw [ByteArray.size_append];have:sshA.size=8:=rfl;omega
 have hsz2:(sshA++sw++(⟨#[32]⟩:ByteArray)++cm).size≤9223372036854775807:=by rw [ByteArray.size_append,ByteArray.size_append,ByteArray.size_append];have:sshA.size=8:=rfl;have:(⟨#[32]⟩:ByteArray).size=1:=rfl;omega
 obtain ⟨L,hL⟩:∃L,sw.data.toList=L:=⟨_,rfl⟩
 obtain ⟨D,hD⟩:∃D,cm.data.toList=D:=⟨_,rfl⟩
 rw [hL,hD]
 by_cases h0:sw=⟨#[]⟩
 ·subst h0
  have E:=hide (show verL L D=[] from by rw [←hL];exact verL_none D)
  have E2:=hide (show decide (verE L D=0)=false from by rw [verE_no E.out];rfl)
  by_cases hc:cm=⟨#[]⟩
  ·subst hc
   have hq1:8+(⟨#[]⟩:ByteArray).size≤9223372036854775807:=by omega
   have hq2:8+(⟨#[]⟩:ByteArray).size+1≤9223372036854775807:=by omega
   have hq3:8+(⟨#[]⟩:ByteArray).size+1+(⟨#[]⟩:ByteArray).size≤9223372036854775807:=by omega
   clear hsz hsz2 hL hD h1 h2
   go_enter Tryz.func227,Tryz.ntmps227
   go_wp2_with (first | (go_at_call 274;refine HC.out.mono ?_;rintro e w1 ⟨⟨i,rfl,hi⟩,rfl⟩;have hi2:¬ 0≤i:=by simpa using hi) | fail)
   go_ret2
   exact ⟨by rw [E2.out,E.out];rfl,rfl⟩
  ·have hcp:(0:Int)<cm.size:=by have:=size_pos hc;omega
   have hq1:8+(⟨#[]⟩:ByteArray).size≤9223372036854775807:=by omega
   have hq2:8+(⟨#[]⟩:ByteArray).size+1≤9223372036854775807:=by omega
   have hq3:8+(⟨#[]⟩:ByteArray).size+1+cm.size≤9223372036854775807:=by omega
   clear hsz hsz2 hL hD h1 h2
   go_enter Tryz.func227,Tryz.ntmps227
   go_wp2_with (first | (go_at_call 274;refine HC.out.mono ?_;rintro e w1 ⟨⟨i,rfl,hi⟩,rfl⟩;have hi2:¬ 0≤i:=by simpa using hi) | fail)
   go_ret2
   exact ⟨by rw [E2.out,E.out];rfl,rfl⟩
 ·have hne:=bytes_ne h0
  have hne2:=bytes_some h0
  have hn0:L≠[]:=fun e=>h0 (toList_inj (hL.trans e))
  have hsp:((sw.size:Int) == 0)=false:=by rw [beq_eq_false_iff_ne];have:=size_pos h0;omega
  have HC:=hide (r10blank_any sw (by omega) w)
  rw [hL] at HC
  cases hb:blankL L with
  | true =>
   have E:=hide (verL_blank (cm:=D) hb)
   rw [hb] at HC
   clear hb hn0
   have E2:=hide (show decide (verE L D=0)=false from by rw [verE_no E.out];rfl)
   by_cases hc:cm=⟨#[]⟩
   ·subst hc
    have hq1:8+sw.size≤9223372036854775807:=by omega
    have hq2:8+sw.size+1≤9223372036854775807:=by omega
    have hq3:8+sw.size+1+(⟨#[]⟩:ByteArray).size≤9223372036854775807:=by omega
    clear hsz hsz2 hL hD h1 h2
    go_enter Tryz.func227,Tryz.ntmps227
    go_wp2_with (first | (go_at_call 274;refine HC.out.mono ?_;rintro e w1 ⟨⟨i,rfl,hi⟩,rfl⟩;have hi2:0≤i:=by simpa using hi) | fail)
    go_ret2
    exact ⟨by rw [E2.out,E.out];rfl,rfl⟩
   ·have hcp:(0:Int)<cm.size:=by have:=size_pos hc;omega
    have hq1:8+sw.size≤9223372036854775807:=by omega
    have hq2:8+sw.size+1≤9223372036854775807:=by omega
    have hq3:8+sw.size+1+cm.size≤9223372036854775807:=by omega
    clear hsz hsz2 hL hD h1 h2
    go_enter Tryz.func227,Tryz.ntmps227
    go_wp2_with (first | (go_at_call 274;refine HC.out.mono ?_;rintro e w1 ⟨⟨i,rfl,hi⟩,rfl⟩;have hi2:0≤i:=by simpa using hi) | fail)
    go_ret2
    exact ⟨by rw [E2.out,E.out];rfl,rfl⟩
  | false =>
   have HV:=hide (verL_of (cm:=D) hn0 hb)
   rw [hb] at HC
   clear hb hn0
   by_cases hc:cm=⟨#[]⟩
   ·subst hc
    have HD:=hide (show (sshA++sw).data.toList=sshB++L++cmtL D from by rw [←hL,← hD];exact ver_data1 sw)
    have hsS:(sshA++sw).data.toList.length=(sshA++sw).size:=rfl
    have HP:=hide (r10plain_any (sshA++sw) hsz w)
    cases hp:betw 32 126 (sshA++sw).data.toList with
    | false =>
     rw [hp] at HP
     unfold sshA at HP
     have hLL:lineL (sshA++sw).data.toList=false:=by unfold lineL;rw [hp];rfl
     have E:=hide (show verL L D=[] from by rw [HV.out,← HD.out,if_neg (by rw [hLL];decide)])
     have E2:=hide (show decide (verE L D=0)=false from by rw [verE_no E.out];rfl)
     clear HV HD hLL hsS hp
     have hq1:8+sw.size≤9223372036854775807:=by omega
     have hq2:8+sw.size+1≤9223372036854775807:=by omega
     have hq3:8+sw.size+1+(⟨#[]⟩:ByteArray).size≤9223372036854775807:=by omega
     clear hsz hsz2 hL hD h1 h2
     go_enter Tryz.func227,Tryz.ntmps227
     go_wp2_with (first | (go_at_call 274;refine HC.out.mono ?_;rintro e w1 ⟨⟨i,rfl,hi⟩,rfl⟩;have hi2:¬ 0≤i:=by simpa using hi) | (go_at_call 275;refine HP.out.mono ?_;rintro e w2 ⟨rfl,rfl⟩) | fail)
     go_ret2
     exact ⟨by rw [E2.out,E.out];rfl,rfl⟩
    | true =>
     rw [hp] at HP
     unfold sshA at HP
     by_cases h253:(sshA++sw).size≤253
     ·have hSz:(sshA++sw).size=8+sw.size:=by rw [ByteArray.size_append];rfl
      have h253b:¬ (253:Int)<((8+sw.size:Nat):Int):=by omega
      have h253c:¬ (253:Int)<8+(sw.size:Int):=by omega
      have hLL:lineL (sshA++sw).data.toList=true:=by unfold lineL;rw [hp,hsS,decide_eq_true h253];rfl
      have E:=hide (show verL L D=(sshA++sw).data.toList from by rw [HV.out,← HD.out,if_pos hLL])
      have hne8:verL L D≠[]:=by rw [E.out];exact ver_ne (by rw [ByteArray.size_append];have:sshA.size=8:=rfl;omega)
      have E2:=hide (show decide (verE L D=0)=true from by rw [verE_yes E.out hne8];rfl)
      clear HV HD hLL hsS hp h253 hSz hne8
      have hq1:8+sw.size≤9223372036854775807:=by omega
      have hq2:8+sw.size+1≤9223372036854775807:=by omega
      have hq3:8+sw.size+1+(⟨#[]⟩:ByteArray).size≤9223372036854775807:=by omega
      clear hsz hsz2 hL hD h1 h2
      go_enter Tryz.func227,Tryz.ntmps227
      go_wp2_with (first | (go_at_call 274;refine HC.out.mono ?_;rintro e w1 ⟨⟨i,rfl,hi⟩,rfl⟩;have hi2:¬ 0≤i:=by simpa using hi) | (go_at_call 275;refine HP.out.mono ?_;rintro e w2 ⟨rfl,rfl⟩) | fail)
      go_ret2
      exact ⟨by rw [E2.out,E.out];rfl,rfl⟩
     ·have hSz:(sshA++sw).size=8+sw.size:=by rw [ByteArray.size_append];rfl
      have h253b:(253:Int)<((8+sw.size:Nat):Int):=by omega
      have h253c:(253:Int)<8+(sw.size:Int):=by omega
      have hLL:lineL (sshA++sw).data.toList=false:=by unfold lineL;rw [hp,hsS,decide_eq_false h253];rfl
      have E:=hide (show verL L D=[] from by rw [HV.out,← HD.out,if_neg (by rw [hLL];decide)])
      have E2:=hide (show decide (verE L D=0)=false from by rw [verE_no E.out];rfl)
      clear HV HD hLL hsS hp h253 hSz
      have hq1:8+sw.size≤9223372036854775807:=by omega
      have hq2:8+sw.size+1≤9223372036854775807:=by omega
      have hq3:8+sw.size+1+(⟨#[]⟩:ByteArray).size≤9223372036854775807:=by omega
      clear hsz hsz2 hL hD h1 h2
      go_enter Tryz.func227,Tryz.ntmps227
      go_wp2_with (first | (go_at_call 274;refine HC.out.mono ?_;rintro e w1 ⟨⟨i,rfl,hi⟩,rfl⟩;have hi2:¬ 0≤i:=by simpa using hi) | (go_at_call 275;refine HP.out.mono ?_;rintro e w2 ⟨rfl,rfl⟩) | fail)
      go_ret2
      exact ⟨by rw [E2.out,E.out];rfl,rfl⟩
   ·have hcp:(0:Int)<cm.size:=by have:=size_pos hc;omega
    have HD:=hide (show (sshA++sw++(⟨#[32]⟩:ByteArray)++cm).data.toList=sshB++L++cmtL D from by rw [←hL,← hD];exact ver_data2r hc)
    have hsS:(sshA++sw++(⟨#[32]⟩:ByteArray)++cm).data.toList.length=(sshA++sw++(⟨#[32]⟩:ByteArray)++cm).size:=rfl
    have HP:=hide (r10plain_any (sshA++sw++(⟨#[32]⟩:ByteArray)++cm) hsz2 w)
    cases hp:betw 32 126 (sshA++sw++(⟨#[32]⟩:ByteArray)++cm).data.toList with
    | false =>
     rw [hp] at HP
     unfold sshA at HP
     have hLL:lineL (sshA++sw++(⟨#[32]⟩:ByteArray)++cm).data.toList=false:=by unfold lineL;rw [hp];rfl
     have E:=hide (show verL L D=[] from by rw [HV.out,← HD.out,if_neg (by rw [hLL];decide)])
     have E2:=hide (show decide (verE L D=0)=false from by rw [verE_no E.out];rfl)
     clear HV HD hLL hsS hp
     have hq1:8+sw.size≤9223372036854775807:=by omega
     have hq2:8+sw.size+1≤9223372036854775807:=by omega
     have hq3:8+sw.size+1+cm.size≤9223372036854775807:=by omega
     clear hsz hsz2 hL hD h1 h2
     go_enter Tryz.func227,Tryz.ntmps227
     go_wp2_with (first | (go_at_call 274;refine HC.out.mono ?_;rintro e w1 ⟨⟨i,rfl,hi⟩,rfl⟩;have hi2:¬ 0≤i:=by simpa using hi) | (go_at_call 275;refine HP.out.mono ?_;rintro e w2 ⟨rfl,rfl⟩) | fail)
     go_ret2
     exact ⟨by rw [E2.out,E.out];rfl,rfl⟩
    | true =>
     rw [hp] at HP
     unfold sshA at HP
     by_cases h253:(sshA++sw++(⟨#[32]⟩:ByteArray)++cm).size≤253
     ·have hSz:(sshA++sw++(⟨#[32]⟩:ByteArray)++cm).size=8+sw.size+1+cm.size:=by rw [ByteArray.size_append,ByteArray.size_append,ByteArray.size_append];rfl
      have h253b:¬ (253:Int)<((8+sw.size+1+cm.size:Nat):Int):=by omega
      have h253c:¬ (253:Int)<8+(sw.size:Int)+1+(cm.size:Int):=by omega
      have hLL:lineL (sshA++sw++(⟨#[32]⟩:ByteArray)++cm).data.toList=true:=by unfold lineL;rw [hp,hsS,decide_eq_true h253];rfl
      have E:=hide (show verL L D=(sshA++sw++(⟨#[32]⟩:ByteArray)++cm).data.toList from by rw [HV.out,← HD.out,if_pos hLL])
      have hne8:verL L D≠[]:=by rw [E.out];exact ver_ne (by rw [ByteArray.size_append,ByteArray.size_append,ByteArray.size_append];have:sshA.size=8:=rfl;omega)
      have E2:=hide (show decide (verE L D=0)=true from by rw [verE_yes E.out hne8];rfl)
      clear HV HD hLL hsS hp h253 hSz hne8
      have hq1:8+sw.size≤9223372036854775807:=by omega
      have hq2:8+sw.size+1≤9223372036854775807:=by omega
      have hq3:8+sw.size+1+cm.size≤9223372036854775807:=by omega
      clear hsz hsz2 hL hD h1 h2
      go_enter Tryz.func227,Tryz.ntmps227
      go_wp2_with (first | (go_at_call 274;refine HC.out.mono ?_;rintro e w1 ⟨⟨i,rfl,hi⟩,rfl⟩;have hi2:¬ 0≤i:=by simpa using hi) | (go_at_call 275;refine HP.out.mono ?_;rintro e w2 ⟨rfl,rfl⟩) | fail)
      go_ret2
      exact ⟨by rw [E2.out,E.out];rfl,rfl⟩
     ·have hSz:(sshA++sw++(⟨#[32]⟩:ByteArray)++cm).size=8+sw.size+1+cm.size:=by rw [ByteArray.size_append,ByteArray.size_append,ByteArray.size_append];rfl
      have h253b:(253:Int)<((8+sw.size+1+cm.size:Nat):Int):=by omega
      have h253c:(253:Int)<8+(sw.size:Int)+1+(cm.size:Int):=by omega
      have hLL:lineL (sshA++sw++(⟨#[32]⟩:ByteArray)++cm).data.toList=false:=by unfold lineL;rw [hp,hsS,decide_eq_false h253];rfl
      have E:=hide (show verL L D=[] from by rw [HV.out,← HD.out,if_neg (by rw [hLL];decide)])
      have E2:=hide (show decide (verE L D=0)=false from by rw [verE_no E.out];rfl)
      clear HV HD hLL hsS hp h253 hSz
      have hq1:8+sw.size≤9223372036854775807:=by omega
      have hq2:8+sw.size+1≤9223372036854775807:=by omega
      have hq3:8+sw.size+1+cm.size≤9223372036854775807:=by omega
      clear hsz hsz2 hL hD h1 h2
      go_enter Tryz.func227,Tryz.ntmps227
      go_wp2_with (first | (go_at_call 274;refine HC.out.mono ?_;rintro e w1 ⟨⟨i,rfl,hi⟩,rfl⟩;have hi2:¬ 0≤i:=by simpa using hi) | (go_at_call 275;refine HP.out.mono ?_;rintro e w2 ⟨rfl,rfl⟩) | fail)
      go_ret2
      exact ⟨by rw [E2.out,E.out];rfl,rfl⟩
--END
end
def meth1:List UInt8:=[99,117,114,118,101,50,53,53,49,57,45,115,104,97,50,53,54]
def meth2:List UInt8:=[101,99,100,104,45,115,104,97,50,45,110,105,115,116,112,50,53,54]
def meth3:List UInt8:=[100,105,102,102,105,101,45,104,101,108,108,109,97,110,45,103,114,111,117,112,45,101,120,99,104,97,110,103,101,45,115,104,97,50,53,54]
def methodN (s:List UInt8):Int:=if s=meth1 then 1 else if s=meth2 then 2 else if s=meth3 then 3 else 0
def wordL:Nat→List UInt8
 | 0=>[107,101,120]
 | 1=>[104,111,115,116]
 | 2=>[101,110,99,45,99]
 | 3=>[101,110,99,45,115]
 | 4=>[109,97,99,45,99]
 | 5=>[109,97,99,45,115]
 | 6=>[99,111,109,112,45,99]
 | 7=>[99,111,109,112,45,115]
 | _=>[]
def onceL (l:List (List UInt8)):Bool:=(List.range l.length).all fun i=>!decide (l.getD i []∈l.take i)
theorem onceL_no {l:List (List UInt8)} {i:Nat} (hi:i<l.length) (h:l[i]∈l.take i):onceL l=false:=by
 unfold onceL
 rw [List.all_eq_false]
 refine ⟨i,List.mem_range.2 hi,?_⟩
 rw [List.getD_eq_getElem?_getD,List.getElem?_eq_getElem hi,Option.getD_some,decide_eq_true h]
 decide
theorem onceL_yes {l:List (List UInt8)} (h:∀i,(hi:i<l.length)→l[i] ∉ l.take i):onceL l=true:=by
 unfold onceL
 rw [List.all_eq_true]
 intro i hi
 have hi2:=List.mem_range.1 hi
 rw [List.getD_eq_getElem?_getD,List.getElem?_eq_getElem hi2,Option.getD_some,decide_eq_false (h i hi2)]
 rfl
def algW (l:List (List UInt8)):Int:=if l.length=0 then 6 else if 16≤l.length then 2 else if (onceL l && l.all rightL)=true then 0 else 3
def kexW (l:List (List UInt8)):Bool:=l.all fun x=>!decide (methodN x=0)
def listW (l:List (List UInt8)) (kex:Bool):Int:=if algW l≠0 then algW l else if kex=true∧kexW l=false then 10 else 0
theorem algW_0 {l:List (List UInt8)} (h:l.length=0):algW l=6:=by unfold algW;rw [if_pos h]
theorem algW_16 {l:List (List UInt8)} (h:16≤l.length):algW l=2:=by unfold algW;rw [if_neg (by omega),if_pos h]
theorem algW_no {l:List (List UInt8)} (h0:l.length≠0) (h:¬ 16≤l.length) (h2:(onceL l && l.all rightL)=false):algW l=3:=by unfold algW;rw [if_neg h0,if_neg h,h2];rfl
theorem algW_yes {l:List (List UInt8)} (h0:l.length≠0) (h:¬ 16≤l.length) (h2:(onceL l && l.all rightL)=true):algW l=0:=by unfold algW;rw [if_neg h0,if_neg h,if_pos h2]
theorem listW_e {l:List (List UInt8)} {x:Int} (kex:Bool) (h:algW l=x) (hx:x≠0):listW l kex=x:=by unfold listW;rw [h,if_pos hx]
theorem listW_a {l:List (List UInt8)} (h:algW l=0) (h2:kexW l=false):listW l true=10:=by unfold listW;rw [if_neg (by rw [h];decide),if_pos ⟨rfl,h2⟩]
theorem listW_y {l:List (List UInt8)} (h:algW l=0) (h2:kexW l=true) (kex:Bool):listW l kex=0:=by unfold listW;rw [if_neg (by rw [h];decide),if_neg (by rw [h2];rintro ⟨_,e⟩;cases e)]
theorem listW_f {l:List (List UInt8)} (h:algW l=0):listW l false=0:=by unfold listW;rw [if_neg (by rw [h];decide),if_neg (by rintro ⟨e,_⟩;cases e)]
theorem all_no {α:Type} {p:α→Bool} {l:List α} {x:α} (hx:x∈l) (h:p x=false):l.all p=false:=by
 rw [List.all_eq_false]
 exact ⟨x,hx,by rw [h];decide⟩
theorem wrongN_small {l:List (List UInt8)} (h:¬ 16≤l.length):wrongN l=if l.all rightL=true then 0 else 3:=by unfold wrongN;rw [if_neg (by omega)]
theorem txs_take {w:World} {A:Option Addr} {c:Nat} {ls:List (List UInt8)} (h:Txs w (.slice A ls.length c) ls) {k:Nat} (hk:k≤ls.length):Txs w (.slice A (ls.take k).length c) (ls.take k):=by
 obtain ⟨A',c',e,hS⟩:=h
 rw [List.length_map] at e hS
 obtain ⟨rfl,rfl⟩:A=A'∧c=c':=by injection e with e1 _ e3;exact ⟨e1,e3⟩
 refine ⟨A,c,by rw [List.length_map],?_,fun hn=>?_⟩
 ·simp
 ·rw [List.length_map,List.length_take] at hn
  obtain ⟨ad,e4,h1,h2,h3⟩:=hS.2 (by omega)
  refine ⟨ad,e4,h1,h2,fun j u hu=>h3 j u ?_⟩
  rw [List.map_take,List.map_take,List.getElem?_take] at hu
  split at hu
  ·exact hu
  ·cases hu
structure MethV (w:World):Prop where
 c0:w.cell? ⟨0,0,none⟩=some (.string ⟨#[]⟩)
 c1:w.cell? ⟨0,1,none⟩=some (.string ⟨#[99,117,114,118,101,50,53,53,49,57,45,115,104,97,50,53,54]⟩)
 c2:w.cell? ⟨0,2,none⟩=some (.string ⟨#[101,99,100,104,45,115,104,97,50,45,110,105,115,116,112,50,53,54]⟩)
 c3:w.cell? ⟨0,3,none⟩=some (.string ⟨#[100,105,102,102,105,101,45,104,101,108,108,109,97,110,45,103,114,111,117,112,45,101,120,99,104,97,110,103,101,45,115,104,97,50,53,54]⟩)
structure WordV (w:World):Prop where
 c0:w.cell? ⟨2,0,none⟩=some (.string ⟨#[107,101,120]⟩)
 c1:w.cell? ⟨2,1,none⟩=some (.string ⟨#[104,111,115,116]⟩)
 c2:w.cell? ⟨2,2,none⟩=some (.string ⟨#[101,110,99,45,99]⟩)
 c3:w.cell? ⟨2,3,none⟩=some (.string ⟨#[101,110,99,45,115]⟩)
 c4:w.cell? ⟨2,4,none⟩=some (.string ⟨#[109,97,99,45,99]⟩)
 c5:w.cell? ⟨2,5,none⟩=some (.string ⟨#[109,97,99,45,115]⟩)
 c6:w.cell? ⟨2,6,none⟩=some (.string ⟨#[99,111,109,112,45,99]⟩)
 c7:w.cell? ⟨2,7,none⟩=some (.string ⟨#[99,111,109,112,45,115]⟩)
theorem MethV.below {w w':World} (h:MethV w) (hb:Below w.heap.size w w'):MethV w' :=
 ⟨(hb.cell (p:=⟨0,0,none⟩) (World.block_lt_of_cell? w _ h.c0)).trans h.c0,(hb.cell (p:=⟨0,1,none⟩) (World.block_lt_of_cell? w _ h.c1)).trans h.c1,(hb.cell (p:=⟨0,2,none⟩) (World.block_lt_of_cell? w _ h.c2)).trans h.c2,(hb.cell (p:=⟨0,3,none⟩) (World.block_lt_of_cell? w _ h.c3)).trans h.c3⟩
theorem WordV.below {w w':World} (h:WordV w) (hb:Below w.heap.size w w'):WordV w' :=
 ⟨(hb.cell (p:=⟨2,0,none⟩) (World.block_lt_of_cell? w _ h.c0)).trans h.c0,(hb.cell (p:=⟨2,1,none⟩) (World.block_lt_of_cell? w _ h.c1)).trans h.c1,(hb.cell (p:=⟨2,2,none⟩) (World.block_lt_of_cell? w _ h.c2)).trans h.c2,(hb.cell (p:=⟨2,3,none⟩) (World.block_lt_of_cell? w _ h.c3)).trans h.c3,(hb.cell (p:=⟨2,4,none⟩) (World.block_lt_of_cell? w _ h.c4)).trans h.c4,(hb.cell (p:=⟨2,5,none⟩) (World.block_lt_of_cell? w _ h.c5)).trans h.c5,(hb.cell (p:=⟨2,6,none⟩) (World.block_lt_of_cell? w _ h.c6)).trans h.c6,(hb.cell (p:=⟨2,7,none⟩) (World.block_lt_of_cell? w _ h.c7)).trans h.c7⟩
section
variable {w : World}
theorem once_any {A:Option Addr} {c:Nat} {ls:List (List UInt8)} (h:Txs w (.slice A ls.length c) ls) (hc:ls.length≤c) (hl:ls.length≤1000000) :
  Calls Tryz.prog 287 #[.slice A ls.length c] w (fun e w'=>e=.returned (.bool (onceL ls))∧w'=w):=by
 have HT:=hide (fun k (hk:k≤ls.length) s=>nhas_any (txs_take h hk) (by rw [List.length_take];omega) s)
 obtain ⟨A',c',hv,hA⟩:=h.open_
 obtain ⟨rfl,rfl⟩:A'=A∧c'=c:=by injection hv with e1 _ e2;exact ⟨e1.symm,e2.symm⟩
 clear hv h
 go_enter Tryz.func287,Tryz.ntmps287
 go_wp2_with fail
 go_loop [7] (fun i=>∃k:Nat,k≤ls.length∧i=.int .i64 k∧Hid (∀i,(hi:i<ls.length)→i<k→ls[i] ∉ ls.take i)) (fun i=>ls.length - (intOf i).toNat)
 case atStart=>exact ⟨0,Nat.zero_le _,rfl,hide (fun i hi h0=>absurd h0 (Nat.not_lt_zero _))⟩
 case round =>
  obtain ⟨k,hk,rfl,H⟩:=hrel
  by_cases hlt:k<ls.length
  ·obtain ⟨ad,rfl,had,hcl⟩:=hA k hlt
   have hkc:k≤c':=by omega
   have HC:=hide (HT.out k hk ls[k])
   rw [List.length_take,Nat.min_eq_left hk] at HC
   by_cases hm:ls[k]∈ls.take k
   ·rw [decide_eq_true hm] at HC
    have E:=hide (onceL_no hlt hm)
    clear hm H HT hA
    go_wp2_with (first | (go_at_call 129;refine HC.out.mono ?_;rintro e w1 ⟨rfl,rfl⟩) | fail)
    go_ret
    exact ⟨by rw [E.out];rfl,rfl⟩
   ·rw [decide_eq_false hm] at HC
    have H2:=hide (show ∀i,(hi:i<ls.length)→i<k+1→ls[i] ∉ ls.take i from fun i hi h2=>by
     by_cases e:i=k
     ·subst e;exact hm
     ·exact H.out i hi (by omega))
    clear hm H HT hA
    go_wp2_with (first | (go_at_call 129;refine HC.out.mono ?_;rintro e w1 ⟨rfl,rfl⟩) | fail)
    go_round
    case rel=>exact ⟨k+1,hlt,by go_num,H2⟩
    case measure=>simp [intOf];omega
  ·have E:=hide (onceL_yes (l:=ls) (fun i hi=>H.out i hi (by omega)))
   clear H HT hA
   go_wp2_with fail
   go_ret
   exact ⟨by rw [E.out];rfl,rfl⟩
theorem meth_cases (s:List UInt8):(s=meth1∧methodN s=1)∨(s≠meth1∧s=meth2∧methodN s=2)∨(s≠meth1∧s≠meth2∧s=meth3∧methodN s=3)∨(s≠meth1∧s≠meth2∧s≠meth3∧methodN s=0):=by
 unfold methodN
 by_cases h1:s=meth1
 ·exact .inl ⟨h1,if_pos h1⟩
 ·by_cases h2:s=meth2
  ·exact .inr (.inl ⟨h1,h2,by rw [if_neg h1,if_pos h2]⟩)
  ·by_cases h3:s=meth3
   ·exact .inr (.inr (.inl ⟨h1,h2,h3,by rw [if_neg h1,if_neg h2,if_pos h3]⟩))
   ·exact .inr (.inr (.inr ⟨h1,h2,h3,by rw [if_neg h1,if_neg h2,if_neg h3]⟩))
theorem meth_eqL1 {s:List UInt8} (h:s=meth1):(([99,117,114,118,101,50,53,53,49,57,45,115,104,97,50,53,54]:List UInt8) == (bs s).toList)=true:=by rw [bs_toList,h];exact beq_self_eq_true meth1
theorem meth_neL1 {s:List UInt8} (h:s≠meth1):(([99,117,114,118,101,50,53,53,49,57,45,115,104,97,50,53,54]:List UInt8) == (bs s).toList)=false:=by rw [bs_toList,beq_eq_false_iff_ne];exact fun e=>h e.symm
theorem meth_eqL2 {s:List UInt8} (h:s=meth2):(([101,99,100,104,45,115,104,97,50,45,110,105,115,116,112,50,53,54]:List UInt8) == (bs s).toList)=true:=by rw [bs_toList,h];exact beq_self_eq_true meth2
theorem meth_neL2 {s:List UInt8} (h:s≠meth2):(([101,99,100,104,45,115,104,97,50,45,110,105,115,116,112,50,53,54]:List UInt8) == (bs s).toList)=false:=by rw [bs_toList,beq_eq_false_iff_ne];exact fun e=>h e.symm
theorem meth_eqL3 {s:List UInt8} (h:s=meth3):(([100,105,102,102,105,101,45,104,101,108,108,109,97,110,45,103,114,111,117,112,45,101,120,99,104,97,110,103,101,45,115,104,97,50,53,54]:List UInt8) == (bs s).toList)=true:=by rw [bs_toList,h];exact beq_self_eq_true meth3
theorem meth_neL3 {s:List UInt8} (h:s≠meth3):(([100,105,102,102,105,101,45,104,101,108,108,109,97,110,45,103,114,111,117,112,45,101,120,99,104,97,110,103,101,45,115,104,97,50,53,54]:List UInt8) == (bs s).toList)=false:=by rw [bs_toList,beq_eq_false_iff_ne];exact fun e=>h e.symm
theorem meth_eq1 {s:List UInt8} (h:s=meth1):((⟨#[99,117,114,118,101,50,53,53,49,57,45,115,104,97,50,53,54]⟩:ByteArray).toList == (bs s).toList)=true:=bytes_eq (by rw [h];rfl)
theorem meth_ne1 {s:List UInt8} (h:s≠meth1):((⟨#[99,117,114,118,101,50,53,53,49,57,45,115,104,97,50,53,54]⟩:ByteArray).toList == (bs s).toList)=false:=bytes_ne (fun e=>h (bs_inj (show bs s=bs meth1 from e.symm)))
theorem meth_eq2 {s:List UInt8} (h:s=meth2):((⟨#[101,99,100,104,45,115,104,97,50,45,110,105,115,116,112,50,53,54]⟩:ByteArray).toList == (bs s).toList)=true:=bytes_eq (by rw [h];rfl)
theorem meth_ne2 {s:List UInt8} (h:s≠meth2):((⟨#[101,99,100,104,45,115,104,97,50,45,110,105,115,116,112,50,53,54]⟩:ByteArray).toList == (bs s).toList)=false:=bytes_ne (fun e=>h (bs_inj (show bs s=bs meth2 from e.symm)))
theorem meth_eq3 {s:List UInt8} (h:s=meth3):((⟨#[100,105,102,102,105,101,45,104,101,108,108,109,97,110,45,103,114,111,117,112,45,101,120,99,104,97,110,103,101,45,115,104,97,50,53,54]⟩:ByteArray).toList == (bs s).toList)=true:=bytes_eq (by rw [h];rfl)
theorem meth_ne3 {s:List UInt8} (h:s≠meth3):((⟨#[100,105,102,102,105,101,45,104,101,108,108,109,97,110,45,103,114,111,117,112,45,101,120,99,104,97,110,103,101,45,115,104,97,50,53,54]⟩:ByteArray).toList == (bs s).toList)=false:=bytes_ne (fun e=>h (bs_inj (show bs s=bs meth3 from e.symm)))
theorem idx4_0 (a b c d:ByteArray) (w:World):(Instr.index 231 (.agg #[.string a,.string b,.string c,.string d]) (.int .i64 0)).run Tryz.prog w=.ok (.string a) w:=by kernel_rfl
theorem idx4_1 (a b c d:ByteArray) (w:World):(Instr.index 231 (.agg #[.string a,.string b,.string c,.string d]) (.int .i64 1)).run Tryz.prog w=.ok (.string b) w:=by kernel_rfl
theorem idx4_2 (a b c d:ByteArray) (w:World):(Instr.index 231 (.agg #[.string a,.string b,.string c,.string d]) (.int .i64 2)).run Tryz.prog w=.ok (.string c) w:=by kernel_rfl
theorem idx4_3 (a b c d:ByteArray) (w:World):(Instr.index 231 (.agg #[.string a,.string b,.string c,.string d]) (.int .i64 3)).run Tryz.prog w=.ok (.string d) w:=by kernel_rfl
theorem method_any (hM:MethV w) (s:List UInt8):Calls Tryz.prog 304 #[.string (bs s)] w (fun e w'=>e=.returned (.int .i64 (methodN s))∧w'=w):=by
 have g0:=hM.c0
 have g1:=hM.c1
 have g2:=hM.c2
 have g3:=hM.c3
 have HM:=hide (meth_cases s)
 have i0:=idx4_0
 have i1:=idx4_1
 have i2:=idx4_2
 have i3:=idx4_3
 clear hM
 go_enter Tryz.func304,Tryz.ntmps304
 go_wp2_with fail
 go_loop [6] (fun i=>∃k:Nat,k≤4∧i=.int .i64 k∧Hid ((2≤k→s≠meth1)∧(3≤k→s≠meth2)∧(4≤k→s≠meth3))) (fun i=>4 - (intOf i).toNat)
 case atStart=>exact ⟨0,Nat.zero_le _,rfl,hide ⟨fun h=>absurd h (by decide),fun h=>absurd h (by decide),fun h=>absurd h (by decide)⟩⟩
 case round =>
  obtain ⟨k,hk,rfl,H⟩:=hrel
  match k,hk with
  | 0,_ =>
   have H2:=hide (show (2≤1→s≠meth1)∧(3≤1→s≠meth2)∧(4≤1→s≠meth3) from ⟨fun h=>absurd h (by decide),fun h=>absurd h (by decide),fun h=>absurd h (by decide)⟩)
   clear H HM
   go_wp2_with fail
   go_round
   case rel=>exact ⟨1,by decide,by go_num,H2⟩
   case measure=>simp [intOf]
  | 1,_ =>
   by_cases hs:s=meth1
   ·have E:=hide (show methodN s=1 from by unfold methodN;rw [if_pos hs])
    have e1:=meth_eq1 hs
    have e2:=meth_eqL1 hs
    clear H HM hs
    go_wp2_with fail
    go_ret
    exact ⟨by rw [E.out];rfl,rfl⟩
   ·have H2:=hide (show (2≤2→s≠meth1)∧(3≤2→s≠meth2)∧(4≤2→s≠meth3) from ⟨fun _=>hs,fun h=>absurd h (by decide),fun h=>absurd h (by decide)⟩)
    have e1:=meth_ne1 hs
    have e2:=meth_neL1 hs
    clear H hs
    go_wp2_with fail
    go_round
    case rel=>exact ⟨2,by decide,by go_num,H2⟩
    case measure=>simp [intOf]
  | 2,_ =>
   by_cases hs:s=meth2
   ·have E:=hide (show methodN s=2 from by unfold methodN;rw [if_neg (H.out.1 (by decide)),if_pos hs])
    have e1:=meth_eq2 hs
    have e2:=meth_eqL2 hs
    clear H HM hs
    go_wp2_with fail
    go_ret
    exact ⟨by rw [E.out];rfl,rfl⟩
   ·have H2:=hide (show (2≤3→s≠meth1)∧(3≤3→s≠meth2)∧(4≤3→s≠meth3) from ⟨fun _=>H.out.1 (by decide),fun _=>hs,fun h=>absurd h (by decide)⟩)
    have e1:=meth_ne2 hs
    have e2:=meth_neL2 hs
    clear H hs
    go_wp2_with fail
    go_round
    case rel=>exact ⟨3,by decide,by go_num,H2⟩
    case measure=>simp [intOf]
  | 3,_ =>
   by_cases hs:s=meth3
   ·have E:=hide (show methodN s=3 from by unfold methodN;rw [if_neg (H.out.1 (by decide)),if_neg (H.out.2.1 (by decide)),if_pos hs])
    have e1:=meth_eq3 hs
    have e2:=meth_eqL3 hs
    clear H HM hs
    go_wp2_with fail
    go_ret
    exact ⟨by rw [E.out];rfl,rfl⟩
   ·have H2:=hide (show (2≤4→s≠meth1)∧(3≤4→s≠meth2)∧(4≤4→s≠meth3) from ⟨fun _=>H.out.1 (by decide),fun _=>H.out.2.1 (by decide),fun _=>hs⟩)
    have e1:=meth_ne3 hs
    have e2:=meth_neL3 hs
    clear H hs
    go_wp2_with fail
    go_round
    case rel=>exact ⟨4,by decide,by go_num,H2⟩
    case measure=>simp [intOf]
  | 4,_ =>
   have E:=hide (show methodN s=0 from by
    rcases HM.out with ⟨e,_⟩ | ⟨_,e,_⟩ | ⟨_,_,e,_⟩ | ⟨_,_,_,e⟩
    ·exact absurd e (H.out.1 (by decide))
    ·exact absurd e (H.out.2.1 (by decide))
    ·exact absurd e (H.out.2.2 (by decide))
    ·exact e)
   clear H HM
   go_wp2_with fail
   go_ret
   exact ⟨by rw [E.out];rfl,rfl⟩
theorem plist_any (hW:WordV w) (i:Nat) (hi:i<8):Calls Tryz.prog 272 #[.int .i64 i] w (fun e w'=>e=.returned (.string (bs (wordL i)))∧w'=w):=by
 match i,hi with
 | 0,_ =>
  have g:=hW.c0
  clear hW
  go_enter Tryz.func272,Tryz.ntmps272
  go_wp2_with fail
  go_ret
  exact ⟨rfl,rfl⟩
 | 1,_ =>
  have g:=hW.c1
  clear hW
  go_enter Tryz.func272,Tryz.ntmps272
  go_wp2_with fail
  go_ret
  exact ⟨rfl,rfl⟩
 | 2,_ =>
  have g:=hW.c2
  clear hW
  go_enter Tryz.func272,Tryz.ntmps272
  go_wp2_with fail
  go_ret
  exact ⟨rfl,rfl⟩
 | 3,_ =>
  have g:=hW.c3
  clear hW
  go_enter Tryz.func272,Tryz.ntmps272
  go_wp2_with fail
  go_ret
  exact ⟨rfl,rfl⟩
 | 4,_ =>
  have g:=hW.c4
  clear hW
  go_enter Tryz.func272,Tryz.ntmps272
  go_wp2_with fail
  go_ret
  exact ⟨rfl,rfl⟩
 | 5,_ =>
  have g:=hW.c5
  clear hW
  go_enter Tryz.func272,Tryz.ntmps272
  go_wp2_with fail
  go_ret
  exact ⟨rfl,rfl⟩
 | 6,_ =>
  have g:=hW.c6
  clear hW
  go_enter Tryz.func272,Tryz.ntmps272
  go_wp2_with fail
  go_ret
  exact ⟨rfl,rfl⟩
 | 7,_ =>
  have g:=hW.c7
  clear hW
  go_enter Tryz.func272,Tryz.ntmps272
  go_wp2_with fail
  go_ret
  exact ⟨rfl,rfl⟩
theorem rnames_any (w:World):Calls Tryz.prog 305 #[] w (fun e w'=>e=.returned (.slice (some ⟨w.heap.size,0,none⟩) 3 3)∧w'=w.alloc (.cells #[.string ⟨#[99,117,114,118,101,50,53,53,49,57,45,115,104,97,50,53,54]⟩,.string ⟨#[101,99,100,104,45,115,104,97,50,45,110,105,115,116,112,50,53,54]⟩,.string ⟨#[100,105,102,102,105,101,45,104,101,108,108,109,97,110,45,103,114,111,117,112,45,101,120,99,104,97,110,103,101,45,115,104,97,50,53,54]⟩] 9)):=by
 go_enter Tryz.func305,Tryz.ntmps305
 go_wp2_with fail
 go_ret
 exact ⟨rfl,rfl⟩
theorem rmethod_any (s:List UInt8) (w:World):Calls Tryz.prog 276 #[.string (bs s)] w (fun e w'=>e=.returned (.int .i64 (methodN s))∧Below w.heap.size w w'):=by
 have HM:=hide (meth_cases s)
 obtain ⟨W,hW⟩:∃W,W=w.alloc (.cells #[.string ⟨#[99,117,114,118,101,50,53,53,49,57,45,115,104,97,50,53,54]⟩,.string ⟨#[101,99,100,104,45,115,104,97,50,45,110,105,115,116,112,50,53,54]⟩,.string ⟨#[100,105,102,102,105,101,45,104,101,108,108,109,97,110,45,103,114,111,117,112,45,101,120,99,104,97,110,103,101,45,115,104,97,50,53,54]⟩] 9):=⟨_,rfl⟩
 have hb:Below w.heap.size w W:=by rw [hW];exact bel_by
 have hB:Blk W w.heap.size 9 #[.string ⟨#[99,117,114,118,101,50,53,53,49,57,45,115,104,97,50,53,54]⟩,.string ⟨#[101,99,100,104,45,115,104,97,50,45,110,105,115,116,112,50,53,54]⟩,.string ⟨#[100,105,102,102,105,101,45,104,101,108,108,109,97,110,45,103,114,111,117,112,45,101,120,99,104,97,110,103,101,45,115,104,97,50,53,54]⟩]:=by rw [hW];exact Blk.new w _ _
 have g0:=hB.cell 0
 have g1:=hB.cell 1
 have g2:=hB.cell 2
 simp at g0 g1 g2
 have HB:=hide hb
 have hlt:=hB.lt
 have HN:=hide (show Calls Tryz.prog 305 #[] w (fun e w'=>e=.returned (.slice (some ⟨w.heap.size,0,none⟩) 3 3)∧w'=W) from by rw [hW];exact rnames_any w)
 clear hb hB hW
 go_enter Tryz.func276,Tryz.ntmps276
 go_wp2_with (first | (go_at_call 305;refine HN.out.mono ?_;rintro e w1 ⟨rfl,rfl⟩) | fail)
 go_loop [4] (fun i=>∃k:Nat,k≤3∧i=.int .i64 k∧Hid ((1≤k→s≠meth1)∧(2≤k→s≠meth2)∧(3≤k→s≠meth3))) (fun i=>3 - (intOf i).toNat)
 case atStart=>exact ⟨0,Nat.zero_le _,rfl,hide ⟨fun h=>absurd h (by decide),fun h=>absurd h (by decide),fun h=>absurd h (by decide)⟩⟩
 case round =>
  obtain ⟨k,hk,rfl,H⟩:=hrel
  match k,hk with
  | 0,_ =>
   by_cases hs:s=meth1
   ·have E:=hide (show methodN s=1 from by unfold methodN;rw [if_pos hs])
    have e1:=meth_eq1 hs
    have e2:=meth_eqL1 hs
    clear H HM hs
    go_wp2_with fail
    go_ret
    exact ⟨by rw [E.out];rfl,HB.out⟩
   ·have H2:=hide (show (1≤1→s≠meth1)∧(2≤1→s≠meth2)∧(3≤1→s≠meth3) from ⟨fun _=>hs,fun h=>absurd h (by decide),fun h=>absurd h (by decide)⟩)
    have e1:=meth_ne1 hs
    have e2:=meth_neL1 hs
    clear H hs
    go_wp2_with fail
    go_round
    case rel=>exact ⟨1,by decide,by go_num,H2⟩
    case measure=>simp [intOf]
  | 1,_ =>
   by_cases hs:s=meth2
   ·have E:=hide (show methodN s=2 from by unfold methodN;rw [if_neg (H.out.1 (by decide)),if_pos hs])
    have e1:=meth_eq2 hs
    have e2:=meth_eqL2 hs
    clear H HM hs
    go_wp2_with fail
    go_ret
    exact ⟨by rw [E.out];rfl,HB.out⟩
   ·have H2:=hide (show (1≤2→s≠meth1)∧(2≤2→s≠meth2)∧(3≤2→s≠meth3) from ⟨fun _=>H.out.1 (by decide),fun _=>hs,fun h=>absurd h (by decide)⟩)
    have e1:=meth_ne2 hs
    have e2:=meth_neL2 hs
    clear H hs
    go_wp2_with fail
    go_round
    case rel=>exact ⟨2,by decide,by go_num,H2⟩
    case measure=>simp [intOf]
  | 2,_ =>
   by_cases hs:s=meth3
   ·have E:=hide (show methodN s=3 from by unfold methodN;rw [if_neg (H.out.1 (by decide)),if_neg (H.out.2.1 (by decide)),if_pos hs])
    have e1:=meth_eq3 hs
    have e2:=meth_eqL3 hs
    clear H HM hs
    go_wp2_with fail
    go_ret
    exact ⟨by rw [E.out];rfl,HB.out⟩
   ·have H2:=hide (show (1≤3→s≠meth1)∧(2≤3→s≠meth2)∧(3≤3→s≠meth3) from ⟨fun _=>H.out.1 (by decide),fun _=>H.out.2.1 (by decide),fun _=>hs⟩)
    have e1:=meth_ne3 hs
    have e2:=meth_neL3 hs
    clear H hs
    go_wp2_with fail
    go_round
    case rel=>exact ⟨3,by decide,by go_num,H2⟩
    case measure=>simp [intOf]
  | 3,_ =>
   have E:=hide (show methodN s=0 from by
    rcases HM.out with ⟨e,_⟩ | ⟨_,e,_⟩ | ⟨_,_,e,_⟩ | ⟨_,_,_,e⟩
    ·exact absurd e (H.out.1 (by decide))
    ·exact absurd e (H.out.2.1 (by decide))
    ·exact absurd e (H.out.2.2 (by decide))
    ·exact e)
   clear H HM
   go_wp2_with fail
   go_ret
   exact ⟨by rw [E.out];rfl,HB.out⟩
theorem rword_any (i:Nat) (hi:i<8) (w:World):Calls Tryz.prog 151 #[.int .i64 i] w (fun e w'=>e=.returned (.string (bs (wordL i)))∧Below w.heap.size w w'):=by
 obtain ⟨W,hW⟩:∃W,W=w.alloc (.cells #[.string ⟨#[107,101,120]⟩,.string ⟨#[104,111,115,116]⟩,.string ⟨#[101,110,99,45,99]⟩,.string ⟨#[101,110,99,45,115]⟩,.string ⟨#[109,97,99,45,99]⟩,.string ⟨#[109,97,99,45,115]⟩,.string ⟨#[99,111,109,112,45,99]⟩,.string ⟨#[99,111,109,112,45,115]⟩] 9):=⟨_,rfl⟩
 have hb:Below w.heap.size w W:=by rw [hW];exact bel_by
 have hB:Blk W w.heap.size 9 #[.string ⟨#[107,101,120]⟩,.string ⟨#[104,111,115,116]⟩,.string ⟨#[101,110,99,45,99]⟩,.string ⟨#[101,110,99,45,115]⟩,.string ⟨#[109,97,99,45,99]⟩,.string ⟨#[109,97,99,45,115]⟩,.string ⟨#[99,111,109,112,45,99]⟩,.string ⟨#[99,111,109,112,45,115]⟩]:=by rw [hW];exact Blk.new w _ _
 have g0:=hB.cell 0
 have g1:=hB.cell 1
 have g2:=hB.cell 2
 have g3:=hB.cell 3
 have g4:=hB.cell 4
 have g5:=hB.cell 5
 have g6:=hB.cell 6
 have g7:=hB.cell 7
 simp at g0 g1 g2 g3 g4 g5 g6 g7
 have HB:=hide hb
 have hlt:=hB.lt
 clear hb hB
 match i,hi with
 | 0,_ =>
  go_enter Tryz.func151,Tryz.ntmps151
  go_upto_region 2 with fail
  rw [←hW]
  clear hW
  go_wp2_with fail
  go_ret
  exact ⟨rfl,HB.out⟩
 | 1,_ =>
  go_enter Tryz.func151,Tryz.ntmps151
  go_upto_region 2 with fail
  rw [←hW]
  clear hW
  go_wp2_with fail
  go_ret
  exact ⟨rfl,HB.out⟩
 | 2,_ =>
  go_enter Tryz.func151,Tryz.ntmps151
  go_upto_region 2 with fail
  rw [←hW]
  clear hW
  go_wp2_with fail
  go_ret
  exact ⟨rfl,HB.out⟩
 | 3,_ =>
  go_enter Tryz.func151,Tryz.ntmps151
  go_upto_region 2 with fail
  rw [←hW]
  clear hW
  go_wp2_with fail
  go_ret
  exact ⟨rfl,HB.out⟩
 | 4,_ =>
  go_enter Tryz.func151,Tryz.ntmps151
  go_upto_region 2 with fail
  rw [←hW]
  clear hW
  go_wp2_with fail
  go_ret
  exact ⟨rfl,HB.out⟩
 | 5,_ =>
  go_enter Tryz.func151,Tryz.ntmps151
  go_upto_region 2 with fail
  rw [←hW]
  clear hW
  go_wp2_with fail
  go_ret
  exact ⟨rfl,HB.out⟩
 | 6,_ =>
  go_enter Tryz.func151,Tryz.ntmps151
  go_upto_region 2 with fail
  rw [←hW]
  clear hW
  go_wp2_with fail
  go_ret
  exact ⟨rfl,HB.out⟩
 | 7,_ =>
  go_enter Tryz.func151,Tryz.ntmps151
  go_upto_region 2 with fail
  rw [←hW]
  clear hW
  go_wp2_with fail
  go_ret
  exact ⟨rfl,HB.out⟩
end
end Go.Proofs.YtnhekaepgpbijaaGreatDoor
