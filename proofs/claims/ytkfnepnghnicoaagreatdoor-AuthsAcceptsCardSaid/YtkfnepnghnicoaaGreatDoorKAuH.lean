/-
  The reference's answer whether a user may be let in by a key. Conditions: at most 1,000 grants and algorithms.
-/
import Derived.Test.YtkfnepnghnicoaaGreatDoorKAuP
import Derived.Test.YtkfnepnghnicoaaGreatDoorKSignCG
import Derived.Test.YtkfnepnghnicoaaGreatDoorKCfKG
import Derived.BigGuardPart
set_option linter.unusedVariables false
set_option linter.unusedSimpArgs false
set_option maxHeartbeats 40000000
set_option maxRecDepth 100000
namespace Go.Proofs.YtkfnepnghnicoaaGreatDoor
open Go.RowKit Go.ChangeShapes Go.WideShapes Go.Sort
theorem hasG_no {gr:List (List UInt8 × Int)} {al:List (List UInt8)} {user alg:List UInt8} {key:Option Tm} (h:isPb key=false):hasG gr al user alg key=false:=by unfold hasG;rw [h];rfl
theorem hasG_na {gr:List (List UInt8 × Int)} {al:List (List UInt8)} {user alg:List UInt8} {key:Option Tm} (h:decide (alg∈al)=false):hasG gr al user alg key=false:=by unfold hasG;rw [h];simp
theorem hasG_of {gr:List (List UInt8 × Int)} {al:List (List UInt8)} {user alg:List UInt8} {key:Option Tm} (h:isPb key=true) (h2:decide (alg∈al)=true):hasG gr al user alg key=decide ((user,(whoO key:Int))∈gr):=by unfold hasG;rw [h,h2];rfl
section
variable {W : World} {A9 A8 : Option Addr} {c9 c8 : Nat} {gr : List (List UInt8 × Int)} {al : List (List UInt8)}
theorem rhas24_any (h9:GrC W A9 gr) (h8:Txs W (.slice A8 al.length c8) al) {key:Option Tm} (hk:fineO key) (user alg:List UInt8) (hgl:gr.length≤1000) (hal:al.length≤1000) :
  Calls Tryz.prog 20 #[.slice A9 gr.length c9,.slice A8 al.length c8,.string (bs user),.string (bs alg),.string (bs (txt key))] W (fun e w'=>e=.returned (.bool (hasG gr al user alg key))∧Below W.heap.size W w'):=by
 have HO:=hide (show Calls Tryz.prog 52 #[.string (bs (txt key))] W (fun e w'=>e=.returned (.tuple #[.int .i64 (whoO key),.bool (isPb key)])∧Below W.heap.size W w') from rOwner_any hk W)
 have HNh:=hide (fun (W':World) (hb:Below W.heap.size W W')=>rhas_any (h8.below hb) (by omega) alg)
 have HG:=hide h9
 generalize bs (txt key)=kx at HO ⊢
 clear h9 h8 hk
 cases hp:isPb key with
 | false =>
  rw [hasG_no hp]
  rw [hp] at HO
  go_enter Tryz.func20,Tryz.ntmps20
  go_wp2_with fail
  refine HO.out.mono ?_
  rintro e w1 ⟨rfl,hb1⟩
  go_wp2_with fail
  go_ret
  exact ⟨rfl,hb1⟩
 | true =>
  rw [hp] at HO
  cases ha:decide (alg∈al) with
  | false =>
   rw [hasG_na ha]
   rw [ha] at HNh
   go_enter Tryz.func20,Tryz.ntmps20
   go_wp2_with fail
   refine HO.out.mono ?_
   rintro e w1 ⟨rfl,hb1⟩
   go_wp2_with fail
   refine (HNh.out _ hb1).mono ?_
   rintro e w2 ⟨rfl,rfl⟩
   go_wp2_with fail
   go_ret
   exact ⟨rfl,hb1⟩
  | true =>
   rw [hasG_of hp ha]
   rw [ha] at HNh
   generalize (whoO key:Nat)=who at HO ⊢
   clear hp ha
   go_enter Tryz.func20,Tryz.ntmps20
   go_wp2_with fail
   refine HO.out.mono ?_
   rintro e w1 ⟨rfl,hb1⟩
   go_wp2_with fail
   refine (HNh.out _ hb1).mono ?_
   rintro e w2 ⟨rfl,rfl⟩
   have Hb1:=hide hb1
   clear HO HNh hb1
   go_wp2_with fail
   go_loopw [13] (fun vi wr=>wr=w2∧∃i:Nat,vi=.int .i64 i∧i≤gr.length∧∀j,(hj:j<gr.length)→j<i→gr[j]≠(user,(who:Int))) (fun vi _=>gr.length - (intOf vi).toNat)
   case atStart=>exact ⟨rfl,0,rfl,Nat.zero_le _,fun j _ h9=>by omega⟩
   case round =>
    obtain ⟨rfl,i,rfl,hi',hno⟩:=hrel
    have hbr:=Hb1.out
    have Hno:=hide hno
    by_cases hlt2:i<gr.length
    ·have hii:(i:Int)<gr.length:=by omega
     obtain ⟨ad,rfl,hab,d0,d1⟩:=HG.out i hlt2
     have d0:=(hbr.cell (p:=ad.add (i*2)) (by rw [block_of_add];exact hab)).trans d0
     have d1:=(hbr.cell (p:=⟨(ad.add (i*2)).block,(ad.add (i*2)).off+1,none⟩) (by rw [block_of_add];exact hab)).trans d1
     have Hpr:=hide (show gr[i]=(gr[i].1,gr[i].2) from rfl)
     generalize gr[i].1=gu at d0 Hpr
     generalize gr[i].2=gw at d1 Hpr
     by_cases e1:gu=user
     ·have x1:((bs gu).toList == (bs user).toList)=true:=by rw [e1];simp
      by_cases e2:gw=who
      ·have x2:(gw == (who:Int))=true:=by rw [e2];simp
       have HE:=hide (show decide ((user,(who:Int))∈gr)=true from decide_eq_true (by rw [←e1,← e2,← Hpr.out];exact List.getElem_mem hlt2))
       clear hno e1 e2 Hpr
       go_wp2_with fail
       go_ret
       exact ⟨by rw [HE.out];rfl,by exact bel_by⟩
      ·have x2:(gw == (who:Int))=false:=by rw [beq_eq_false_iff_ne];exact e2
       have HE:=hide (show ∀j,(hj:j<gr.length)→j<i+1→gr[j]≠(user,(who:Int)) from fun j hj h9=>by
        rcases Nat.lt_succ_iff_lt_or_eq.1 h9 with h8 | h8
        ·exact Hno.out j hj h8
        ·subst h8
         rw [Hpr.out]
         intro h7
         cases h7
         exact e2 rfl)
       clear hno e1 e2 Hpr
       go_wp2_with fail
       exact ⟨⟨trivial,i+1,by go_num,by omega,HE.out⟩,by simp [intOf];omega⟩
     ·have x1:((bs gu).toList == (bs user).toList)=false:=by rw [beq_eq_false_iff_ne,bs_toList,bs_toList];exact e1
      have HE:=hide (show ∀j,(hj:j<gr.length)→j<i+1→gr[j]≠(user,(who:Int)) from fun j hj h9=>by
       rcases Nat.lt_succ_iff_lt_or_eq.1 h9 with h8 | h8
       ·exact Hno.out j hj h8
       ·subst h8
        rw [Hpr.out]
        intro h7
        cases h7
        exact e1 rfl)
      clear hno e1 Hpr
      go_wp2_with fail
      exact ⟨⟨trivial,i+1,by go_num,by omega,HE.out⟩,by simp [intOf];omega⟩
    ·obtain rfl:i=gr.length:=by omega
     have hii:¬ (gr.length:Int)<gr.length:=by omega
     have HE:=hide (show decide ((user,(who:Int))∈gr)=false from decide_eq_false (fun h9=>by
      obtain ⟨j,hj,h8⟩:=List.getElem_of_mem h9
      exact Hno.out j hj hj h8))
     clear hno
     go_wp2_with fail
     go_ret
     exact ⟨by rw [HE.out];rfl,by exact bel_by⟩
end
end Go.Proofs.YtkfnepnghnicoaaGreatDoor
