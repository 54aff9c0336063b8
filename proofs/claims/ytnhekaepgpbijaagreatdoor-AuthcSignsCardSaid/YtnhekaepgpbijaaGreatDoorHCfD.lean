/-
  Contracts of a conf's parts: what is wrong with lists of names. Conditions: lists of at most 1,000,000 texts.
-/
import Derived.Test.YtnhekaepgpbijaaGreatDoorHCfCG
import Derived.Test.YtnhekaepgpbijaaGreatDoorHGetsG
set_option linter.unusedVariables false
set_option linter.unusedSimpArgs false
set_option maxHeartbeats 40000000
set_option maxRecDepth 100000
namespace Go.Proofs.YtnhekaepgpbijaaGreatDoor
open Go.RowKit Go.ChangeShapes Go.WideShapes Go.Sort
theorem quiet_of {P:Program} {f:FuncId} {args:Array Value} {w:World} {n:Nat} {v:Value} (h:Calls P f args (w.drewN n) fun e w'=>e=.returned v∧w'=w.drewN n) :
  Calls P f args (w.drewN n) fun e w'=>e=.returned v∧∃m,w'=w.drewN m:=h.mono fun _ _ h=>⟨h.1,n,h.2⟩
theorem wr_ok {l:List (List UInt8)} (h:¬ 16≤l.length) (h2:l.all rightL=true):wrongN l=0:=by rw [wrongN_small h,if_pos h2]
theorem wr_no {l:List (List UInt8)} (h:¬ 16≤l.length) (h2:l.all rightL=false):wrongN l=3:=by rw [wrongN_small h,h2];rfl
section
variable {w : World}
theorem algs_any {A:Option Addr} {c:Nat} {ls:List (List UInt8)} (h:Txs w (.slice A ls.length c) ls) (hc:ls.length≤c) (hl:ls.length≤1000000) (hy:∀y∈ls,y.length≤1000000) :
  Calls Tryz.prog 248 #[.slice A ls.length c] w (fun e w'=>e=.returned (.int .i64 (algW ls))∧Below w.heap.size w w'):=by
 have HO:=hide (once_any h hc hl)
 have HJ:=hide (njoin_any h hc (fun y hm=>Nat.le_trans (hy y hm) (by decide)))
 by_cases h0:ls.length=0
 ·have e0:((ls.length:Int) == 0)=true:=by rw [h0];rfl
  have E:=hide (show algW ls=6 from algW_0 h0)
  clear h0 h hc hl hy HO HJ
  go_enter Tryz.func248,Tryz.ntmps248
  go_wp2_with fail
  go_ret
  exact ⟨by rw [E.out];rfl,Below.refl _ _⟩
 ·have e0:((ls.length:Int) == 0)=false:=by rw [beq_eq_false_iff_ne];omega
  by_cases h16:16≤ls.length
  ·have e16:(16:Int)≤ls.length:=by omega
   have E:=hide (show algW ls=2 from algW_16 h16)
   clear h0 h16 h hc hl hy HO HJ
   go_enter Tryz.func248,Tryz.ntmps248
   go_wp2_with fail
   go_ret
   exact ⟨by rw [E.out];rfl,Below.refl _ _⟩
  ·have e16:¬ (16:Int)≤ls.length:=by omega
   cases ho:onceL ls with
   | false =>
    rw [ho] at HO
    have E:=hide (show algW ls=3 from algW_no h0 h16 (by rw [ho];rfl))
    clear h0 h16 h hc hl hy HJ ho
    go_enter Tryz.func248,Tryz.ntmps248
    go_wp2_with (first | (go_at_call 287;refine HO.out.mono ?_;rintro e w1 ⟨rfl,rfl⟩) | fail)
    go_ret
    exact ⟨by rw [E.out];rfl,Below.refl _ _⟩
   | true =>
    rw [ho] at HO
    cases hr:ls.all rightL with
    | false =>
     rw [wr_no h16 hr] at HJ
     have E:=hide (show algW ls=3 from algW_no h0 h16 (by rw [ho,hr];rfl))
     clear h0 h16 h hc hl hy ho hr
     go_enter Tryz.func248,Tryz.ntmps248
     go_wp2_with (first | (go_at_call 287;refine HO.out.mono ?_;rintro e w1 ⟨rfl,rfl⟩) | (go_at_call 202;refine HJ.out.mono ?_;rintro e w2 ⟨rfl,hb2⟩) | fail)
     go_ret
     exact ⟨by rw [E.out];rfl,hb2⟩
    | true =>
     rw [wr_ok h16 hr] at HJ
     have hz:algW ls=0:=algW_yes h0 h16 (by rw [ho,hr];rfl)
     have E:=hide hz
     clear h0 h16 h hc hl hy ho hr hz
     go_enter Tryz.func248,Tryz.ntmps248
     go_wp2_with (first | (go_at_call 287;refine HO.out.mono ?_;rintro e w1 ⟨rfl,rfl⟩) | (go_at_call 202;refine HJ.out.mono ?_;rintro e w2 ⟨rfl,hb2⟩) | fail)
     go_ret
     exact ⟨by rw [E.out];rfl,hb2⟩
theorem pwrong_any {A:Option Addr} {c:Nat} {ls:List (List UInt8)} (hM:MethV w) (h:Txs w (.slice A ls.length c) ls) (hc:ls.length≤c) (hl:ls.length≤1000000) (hy:∀y∈ls,y.length≤1000000) (kex:Bool) :
  Calls Tryz.prog 273 #[.slice A ls.length c,.bool kex] w (fun e w'=>e=.returned (.int .i64 (listW ls kex))∧Below w.heap.size w w'):=by
 have HO:=hide (once_any h hc hl)
 have HJ:=hide (njoin_any h hc (fun y hm=>Nat.le_trans (hy y hm) (by decide)))
 by_cases h0:ls.length=0
 ·have e0:((ls.length:Int) == 0)=true:=by rw [h0];rfl
  have E:=hide (show listW ls kex=6 from listW_e kex (algW_0 h0) (by decide))
  clear h0 h hc hl hy HO HJ
  go_enter Tryz.func273,Tryz.ntmps273
  go_wp2_with fail
  go_ret
  exact ⟨by rw [E.out];rfl,Below.refl _ _⟩
 ·have e0:((ls.length:Int) == 0)=false:=by rw [beq_eq_false_iff_ne];omega
  by_cases h16:16≤ls.length
  ·have e16:(16:Int)≤ls.length:=by omega
   have E:=hide (show listW ls kex=2 from listW_e kex (algW_16 h16) (by decide))
   clear h0 h16 h hc hl hy HO HJ
   go_enter Tryz.func273,Tryz.ntmps273
   go_wp2_with fail
   go_ret
   exact ⟨by rw [E.out];rfl,Below.refl _ _⟩
  ·have e16:¬ (16:Int)≤ls.length:=by omega
   cases ho:onceL ls with
   | false =>
    rw [ho] at HO
    have E:=hide (show listW ls kex=3 from listW_e kex (algW_no h0 h16 (by rw [ho];rfl)) (by decide))
    clear h0 h16 h hc hl hy HJ ho
    go_enter Tryz.func273,Tryz.ntmps273
    go_wp2_with (first | (go_at_call 287;refine HO.out.mono ?_;rintro e w1 ⟨rfl,rfl⟩) | fail)
    go_ret
    exact ⟨by rw [E.out];rfl,Below.refl _ _⟩
   | true =>
    rw [ho] at HO
    cases hr:ls.all rightL with
    | false =>
     rw [wr_no h16 hr] at HJ
     have E:=hide (show listW ls kex=3 from listW_e kex (algW_no h0 h16 (by rw [ho,hr];rfl)) (by decide))
     clear h0 h16 h hc hl hy ho hr
     go_enter Tryz.func273,Tryz.ntmps273
     go_wp2_with (first | (go_at_call 287;refine HO.out.mono ?_;rintro e w1 ⟨rfl,rfl⟩) | (go_at_call 202;refine HJ.out.mono ?_;rintro e w2 ⟨rfl,hb2⟩) | fail)
     go_ret
     exact ⟨by rw [E.out];rfl,hb2⟩
    | true =>
     rw [wr_ok h16 hr] at HJ
     have hz:algW ls=0:=algW_yes h0 h16 (by rw [ho,hr];rfl)
     obtain ⟨A',c',hv,hA⟩:=h.open_
     obtain ⟨rfl,rfl⟩:A'=A∧c'=c:=by injection hv with e1 _ e2;exact ⟨e1.symm,e2.symm⟩
     have HMe:=hide (fun (W:World) (hb:Below w.heap.size w W) s=>method_any (hM.below hb) s)
     have HA:=hide hA
     clear h0 h16 h hc hy ho hr hv hM hA
     have Hz:=hide hz
     clear hz
     go_enter Tryz.func273,Tryz.ntmps273
     go_wp2_with (first | (go_at_call 287;refine HO.out.mono ?_;rintro e w1 ⟨rfl,rfl⟩) | (go_at_call 202;refine HJ.out.mono ?_;rintro e w2 ⟨rfl,hb2⟩) | fail)
     have HB2:=hide hb2
     clear hb2 HO HJ
     go_loop [31] (fun i=>∃k:Nat,k≤ls.length∧i=.int .i64 k∧Hid (kex=true→∀x∈ls.take k,methodN x≠0)) (fun i=>ls.length - (intOf i).toNat)
     case atStart=>exact ⟨0,Nat.zero_le _,rfl,hide (by simp)⟩
     case round =>
      obtain ⟨k,hk,rfl,H⟩:=hrel
      by_cases hlt:k<ls.length
      ·obtain ⟨ad,rfl,had,hcl⟩:=HA.out k hlt
       have hcl2:=(cellAdd HB2.out had hcl)
       have HC:=hide (HMe.out _ HB2.out ls[k])
       cases kex with
       | false =>
        have H2:=hide (show false=true→∀x∈ls.take (k+1),methodN x≠0 from fun e=>by cases e)
        clear H HC HMe HA
        go_wp2_with fail
        go_round
        case rel=>exact ⟨k+1,hlt,by go_num,H2⟩
        case measure=>simp [intOf];omega
       | true =>
        by_cases hm:methodN ls[k]=0
        ·rw [hm] at HC
         have E:=hide (listW_a Hz.out (all_no (List.getElem_mem hlt) (by rw [decide_eq_true hm];rfl)))
         clear H hm HMe HA
         go_wp2_with (first | (go_at_call 304;refine HC.out.mono ?_;rintro e w3 ⟨rfl,rfl⟩) | fail)
         go_ret
         exact ⟨by rw [E.out];rfl,HB2.out⟩
        ·have hm2:(methodN ls[k] == 0)=false:=by rw [beq_eq_false_iff_ne];exact hm
         have H2:=hide (show true=true→∀x∈ls.take (k+1),methodN x≠0 from fun e x hx=>by
          rw [List.take_succ_eq_append_getElem hlt] at hx
          rcases List.mem_append.1 hx with hx | hx
          ·exact H.out rfl x hx
          ·simp only [List.mem_singleton] at hx
           subst hx
           exact hm)
         clear H HMe HA hm
         go_wp2_with (first | (go_at_call 304;refine HC.out.mono ?_;rintro e w3 ⟨rfl,rfl⟩) | fail)
         go_round
         case rel=>exact ⟨k+1,hlt,by go_num,H2⟩
         case measure=>simp [intOf];omega
      ·have E:=hide (show listW ls kex=0 from by
        cases kex with
        | false=>exact listW_f Hz.out
        | true =>
         have hkw:kexW ls=true:=by
          unfold kexW
          rw [List.all_eq_true]
          intro x hx
          rw [decide_eq_false (H.out rfl x (by rw [List.take_of_length_le (by omega)];exact hx))]
          rfl
         exact listW_y Hz.out hkw true)
       clear H HMe HA
       go_wp2_with fail
       go_ret
       exact ⟨by rw [E.out];rfl,HB2.out⟩
theorem ralgs_any {A:Option Addr} {c:Nat} {ls:List (List UInt8)} (h:Txs w (.slice A ls.length c) ls) (hc:ls.length≤c) (hl:ls.length≤1000000) (hy:∀y∈ls,y.length≤1000000) :
  Calls Tryz.prog 230 #[.slice A ls.length c] w (fun e w'=>e=.returned (.int .i64 (algW ls))∧Below w.heap.size w w'):=by
 have HH:=hide (fun (W:World) (hb:Below w.heap.size w W) k (hk:k≤ls.length) s=>rhas_any (txs_take (h.below hb) hk) (by rw [List.length_take];omega) s)
 by_cases h0:ls.length=0
 ·have e0:((ls.length:Int) == 0)=true:=by rw [h0];rfl
  have E:=hide (show algW ls=6 from algW_0 h0)
  clear h0 h hc hl hy HH
  go_enter Tryz.func230,Tryz.ntmps230
  go_wp2_with fail
  go_ret
  exact ⟨by rw [E.out];rfl,Below.refl _ _⟩
 ·have e0:((ls.length:Int) == 0)=false:=by rw [beq_eq_false_iff_ne];omega
  by_cases h16:16≤ls.length
  ·have e16:(15:Int)<ls.length:=by omega
   have E:=hide (show algW ls=2 from algW_16 h16)
   clear h0 h16 h hc hl hy HH
   go_enter Tryz.func230,Tryz.ntmps230
   go_wp2_with fail
   go_ret
   exact ⟨by rw [E.out];rfl,Below.refl _ _⟩
  ·have e16:¬ (15:Int)<ls.length:=by omega
   have HR:=hide (fun (W:World) k (hk:k<ls.length)=>rright_any (bs ls[k]) (Nat.le_trans (hy _ (List.getElem_mem hk)) (by decide)) W)
   obtain ⟨A',c',hv,hA⟩:=h.open_
   obtain ⟨rfl,rfl⟩:A'=A∧c'=c:=by injection hv with e1 _ e2;exact ⟨e1.symm,e2.symm⟩
   have HA:=hide hA
   have Hno:=hide (fun (x:(onceL ls && ls.all rightL)=false)=>algW_no h0 h16 x)
   have Hyes:=hide (fun (x:(onceL ls && ls.all rightL)=true)=>algW_yes h0 h16 x)
   clear h0 h16 h hy hv hA
   go_enter Tryz.func230,Tryz.ntmps230
   go_wp2_with fail
   go_loopw [3] (fun i wr=>(∃k:Nat,k≤ls.length∧i=.int .i64 k∧Hid ((∀x∈ls.take k,rightL x=true)∧∀j,(hj:j<ls.length)→j<k→ls[j] ∉ ls.take j))∧Hid (Below w.heap.size w wr)) (fun i _=>ls.length - (intOf i).toNat)
   case atStart=>exact ⟨⟨0,Nat.zero_le _,rfl,hide ⟨by simp,fun i hi h0=>absurd h0 (Nat.not_lt_zero _)⟩⟩,hide (Below.refl _ _)⟩
   case round =>
    obtain ⟨⟨k,hk,rfl,H⟩,HB⟩:=hrel
    by_cases hlt:k<ls.length
    ·have hltI:(k:Int)<ls.length:=by omega
     obtain ⟨ad,rfl,had,hcl⟩:=HA.out k hlt
     have hkc:k≤c':=by omega
     have hcl2:=(cellAdd HB.out had hcl)
     cases hr:rightL ls[k] with
     | false =>
      have HR2:=hide (show ∀n,Calls Tryz.prog 70 #[.string (bs ls[k])] (wr.drewN n) (fun e w'=>e=.returned (.bool false)∧∃m,w'=wr.drewN m) from fun n=>quiet_of (by have:=HR.out (wr.drewN n) k hlt;rwa [bs_data,hr] at this))
      have hz:algW ls=3:=Hno.out (by rw [all_no (List.getElem_mem hlt) hr,Bool.and_false])
      have E:=hide hz
      clear hr H HH HR HA hz Hno Hyes hcl
      generalize ls[k]=y at HR2 hcl2
      go_upto_region 8 with fail
      go_quiet ((go_at_call 70;exact HR2.out _))
      go_wp2_with fail
      go_ret
      exact ⟨by rw [E.out];rfl,below_drewN HB.out _⟩
     | true =>
      have HR2:=hide (show ∀n,Calls Tryz.prog 70 #[.string (bs ls[k])] (wr.drewN n) (fun e w'=>e=.returned (.bool true)∧∃m,w'=wr.drewN m) from fun n=>quiet_of (by have:=HR.out (wr.drewN n) k hlt;rwa [bs_data,hr] at this))
      by_cases hm:ls[k]∈ls.take k
      ·have HC:=hide (show ∀n,Calls Tryz.prog 78 #[.slice (some ad) k c',.string (bs ls[k])] (wr.drewN n) (fun e w'=>e=.returned (.bool true)∧∃m,w'=wr.drewN m) from fun n=>quiet_of (by have:=HH.out (wr.drewN n) (below_drewN HB.out n) k hk ls[k];rwa [List.length_take,Nat.min_eq_left hk,decide_eq_true hm] at this))
       have hz:algW ls=3:=Hno.out (by rw [onceL_no hlt hm,Bool.false_and])
       have E:=hide hz
       clear hm hr H HH HR HA hz Hno Hyes hcl
       generalize ls[k]=y at HR2 HC hcl2
       go_upto_region 8 with fail
       go_quiet (first | (go_at_call 70;exact HR2.out _) | (go_at_call 78;exact HC.out _))
       go_wp2_with fail
       go_ret
       exact ⟨by rw [E.out];rfl,below_drewN HB.out _⟩
      ·have HC:=hide (show ∀n,Calls Tryz.prog 78 #[.slice (some ad) k c',.string (bs ls[k])] (wr.drewN n) (fun e w'=>e=.returned (.bool false)∧∃m,w'=wr.drewN m) from fun n=>quiet_of (by have:=HH.out (wr.drewN n) (below_drewN HB.out n) k hk ls[k];rwa [List.length_take,Nat.min_eq_left hk,decide_eq_false hm] at this))
       have H2:=hide (show (∀x∈ls.take (k+1),rightL x=true)∧∀i,(hi:i<ls.length)→i<k+1→ls[i] ∉ ls.take i from ⟨fun x hx=>by
        rw [List.take_succ_eq_append_getElem hlt] at hx
        rcases List.mem_append.1 hx with hx | hx
        ·exact H.out.1 x hx
        ·simp only [List.mem_singleton] at hx
         subst hx
         exact hr,fun i hi h2=>by
        by_cases e:i=k
        ·subst e;exact hm
        ·exact H.out.2 i hi (by omega)⟩)
       clear hm hr H HH HR HA Hno Hyes hcl
       generalize ls[k]=y at HR2 HC hcl2
       go_upto_region 8 with fail
       go_quiet (first | (go_at_call 70;exact HR2.out _) | (go_at_call 78;exact HC.out _))
       go_wp2_with fail
       go_round
       case rel=>exact ⟨⟨k+1,hlt,by go_num,H2⟩,hide (below_drewN HB.out _)⟩
       case measure=>simp [intOf];omega
    ·have hltI:¬ (k:Int)<ls.length:=by omega
     have hz:algW ls=0:=Hyes.out (by
      rw [onceL_yes (l:=ls) (fun i hi=>H.out.2 i hi (by omega)),Bool.true_and,List.all_eq_true]
      exact fun x hx=>H.out.1 x (by rw [List.take_of_length_le (by omega)];exact hx))
     have E:=hide hz
     clear H HH HR HA hz Hno Hyes
     go_wp2_with fail
     go_ret
     exact ⟨by rw [E.out];rfl,HB.out⟩
theorem rlistw_any {A:Option Addr} {c:Nat} {ls:List (List UInt8)} (h:Txs w (.slice A ls.length c) ls) (hc:ls.length≤c) (hl:ls.length≤1000000) (hy:∀y∈ls,y.length≤1000000) (kex:Bool) :
  Calls Tryz.prog 228 #[.slice A ls.length c,.bool kex] w (fun e w'=>e=.returned (.int .i64 (listW ls kex))∧Below w.heap.size w w'):=by
 have HH:=hide (fun (W:World) (hb:Below w.heap.size w W) k (hk:k≤ls.length) s=>rhas_any (txs_take (h.below hb) hk) (by rw [List.length_take];omega) s)
 by_cases h0:ls.length=0
 ·have e0:((ls.length:Int) == 0)=true:=by rw [h0];rfl
  have E:=hide (show listW ls kex=6 from listW_e kex (algW_0 h0) (by decide))
  clear h0 h hc hl hy HH
  go_enter Tryz.func228,Tryz.ntmps228
  go_wp2_with fail
  go_ret
  exact ⟨by rw [E.out];rfl,Below.refl _ _⟩
 ·have e0:((ls.length:Int) == 0)=false:=by rw [beq_eq_false_iff_ne];omega
  by_cases h16:16≤ls.length
  ·have e16:(15:Int)<ls.length:=by omega
   have E:=hide (show listW ls kex=2 from listW_e kex (algW_16 h16) (by decide))
   clear h0 h16 h hc hl hy HH
   go_enter Tryz.func228,Tryz.ntmps228
   go_wp2_with fail
   go_ret
   exact ⟨by rw [E.out];rfl,Below.refl _ _⟩
  ·have e16:¬ (15:Int)<ls.length:=by omega
   have HR:=hide (fun (W:World) k (hk:k<ls.length)=>rright_any (bs ls[k]) (Nat.le_trans (hy _ (List.getElem_mem hk)) (by decide)) W)
   obtain ⟨A',c',hv,hA⟩:=h.open_
   obtain ⟨rfl,rfl⟩:A'=A∧c'=c:=by injection hv with e1 _ e2;exact ⟨e1.symm,e2.symm⟩
   have HA:=hide hA
   have Hno:=hide (fun (x:(onceL ls && ls.all rightL)=false)=>algW_no h0 h16 x)
   have Hyes:=hide (fun (x:(onceL ls && ls.all rightL)=true)=>algW_yes h0 h16 x)
   clear h0 h16 h hy hv hA
   go_enter Tryz.func228,Tryz.ntmps228
   go_wp2_with fail
   go_loopw [5] (fun i wr=>(∃k:Nat,k≤ls.length∧i=.int .i64 k∧Hid ((∀x∈ls.take k,rightL x=true)∧∀j,(hj:j<ls.length)→j<k→ls[j] ∉ ls.take j))∧Hid (Below w.heap.size w wr)) (fun i _=>ls.length - (intOf i).toNat)
   case atStart=>exact ⟨⟨0,Nat.zero_le _,rfl,hide ⟨by simp,fun i hi h0=>absurd h0 (Nat.not_lt_zero _)⟩⟩,hide (Below.refl _ _)⟩
   case round =>
    obtain ⟨⟨k,hk,rfl,H⟩,HB⟩:=hrel
    by_cases hlt:k<ls.length
    ·have hltI:(k:Int)<ls.length:=by omega
     obtain ⟨ad,rfl,had,hcl⟩:=HA.out k hlt
     have hkc:k≤c':=by omega
     have hcl2:=(cellAdd HB.out had hcl)
     cases hr:rightL ls[k] with
     | false =>
      have HR2:=hide (show ∀n,Calls Tryz.prog 70 #[.string (bs ls[k])] (wr.drewN n) (fun e w'=>e=.returned (.bool false)∧∃m,w'=wr.drewN m) from fun n=>quiet_of (by have:=HR.out (wr.drewN n) k hlt;rwa [bs_data,hr] at this))
      have hz:algW ls=3:=Hno.out (by rw [all_no (List.getElem_mem hlt) hr,Bool.and_false])
      have E:=hide (listW_e kex hz (by decide))
      clear hr H HH HR HA hz Hno Hyes hcl
      generalize ls[k]=y at HR2 hcl2
      go_upto_region 8 with fail
      go_quiet ((go_at_call 70;exact HR2.out _))
      go_wp2_with fail
      go_ret
      exact ⟨by rw [E.out];rfl,below_drewN HB.out _⟩
     | true =>
      have HR2:=hide (show ∀n,Calls Tryz.prog 70 #[.string (bs ls[k])] (wr.drewN n) (fun e w'=>e=.returned (.bool true)∧∃m,w'=wr.drewN m) from fun n=>quiet_of (by have:=HR.out (wr.drewN n) k hlt;rwa [bs_data,hr] at this))
      by_cases hm:ls[k]∈ls.take k
      ·have HC:=hide (show ∀n,Calls Tryz.prog 78 #[.slice (some ad) k c',.string (bs ls[k])] (wr.drewN n) (fun e w'=>e=.returned (.bool true)∧∃m,w'=wr.drewN m) from fun n=>quiet_of (by have:=HH.out (wr.drewN n) (below_drewN HB.out n) k hk ls[k];rwa [List.length_take,Nat.min_eq_left hk,decide_eq_true hm] at this))
       have hz:algW ls=3:=Hno.out (by rw [onceL_no hlt hm,Bool.false_and])
       have E:=hide (listW_e kex hz (by decide))
       clear hm hr H HH HR HA hz Hno Hyes hcl
       generalize ls[k]=y at HR2 HC hcl2
       go_upto_region 8 with fail
       go_quiet (first | (go_at_call 70;exact HR2.out _) | (go_at_call 78;exact HC.out _))
       go_wp2_with fail
       go_ret
       exact ⟨by rw [E.out];rfl,below_drewN HB.out _⟩
      ·have HC:=hide (show ∀n,Calls Tryz.prog 78 #[.slice (some ad) k c',.string (bs ls[k])] (wr.drewN n) (fun e w'=>e=.returned (.bool false)∧∃m,w'=wr.drewN m) from fun n=>quiet_of (by have:=HH.out (wr.drewN n) (below_drewN HB.out n) k hk ls[k];rwa [List.length_take,Nat.min_eq_left hk,decide_eq_false hm] at this))
       have H2:=hide (show (∀x∈ls.take (k+1),rightL x=true)∧∀i,(hi:i<ls.length)→i<k+1→ls[i] ∉ ls.take i from ⟨fun x hx=>by
        rw [List.take_succ_eq_append_getElem hlt] at hx
        rcases List.mem_append.1 hx with hx | hx
        ·exact H.out.1 x hx
        ·simp only [List.mem_singleton] at hx
         subst hx
         exact hr,fun i hi h2=>by
        by_cases e:i=k
        ·subst e;exact hm
        ·exact H.out.2 i hi (by omega)⟩)
       clear hm hr H HH HR HA Hno Hyes hcl
       generalize ls[k]=y at HR2 HC hcl2
       go_upto_region 8 with fail
       go_quiet (first | (go_at_call 70;exact HR2.out _) | (go_at_call 78;exact HC.out _))
       go_wp2_with fail
       go_round
       case rel=>exact ⟨⟨k+1,hlt,by go_num,H2⟩,hide (below_drewN HB.out _)⟩
       case measure=>simp [intOf];omega
    ·have hltI:¬ (k:Int)<ls.length:=by omega
     have hz:algW ls=0:=Hyes.out (by
      rw [onceL_yes (l:=ls) (fun i hi=>H.out.2 i hi (by omega)),Bool.true_and,List.all_eq_true]
      exact fun x hx=>H.out.1 x (by rw [List.take_of_length_le (by omega)];exact hx))
     have Hz:=hide hz
     clear H HH HR hz Hno Hyes
     have HMe:=hide (fun (W:World) s=>rmethod_any s W)
     go_wp2_with fail
     go_loopw [6] (fun i wr=>(∃k:Nat,k≤ls.length∧i=.int .i64 k∧Hid (kex=true→∀x∈ls.take k,methodN x≠0))∧Hid (Below w.heap.size w wr)) (fun i _=>ls.length - (intOf i).toNat)
     case atStart=>exact ⟨⟨0,Nat.zero_le _,rfl,hide (by simp)⟩,HB⟩
     case round =>
      obtain ⟨⟨k,hk,rfl,H⟩,HB⟩:=hrel
      by_cases hlt:k<ls.length
      ·have hltI:(k:Int)<ls.length:=by omega
       obtain ⟨ad,rfl,had,hcl⟩:=HA.out k hlt
       have hcl2:=(cellAdd HB.out had hcl)
       have HC:=hide (HMe.out wr ls[k])
       cases kex with
       | false =>
        have H2:=hide (show false=true→∀x∈ls.take (k+1),methodN x≠0 from fun e=>by cases e)
        clear H HC HMe HA hcl
        go_wp2_with fail
        go_round
        case rel=>exact ⟨⟨k+1,hlt,by go_num,H2⟩,HB⟩
        case measure=>simp [intOf];omega
       | true =>
        by_cases hm:methodN ls[k]=0
        ·rw [hm] at HC
         have E:=hide (listW_a Hz.out (all_no (List.getElem_mem hlt) (by rw [decide_eq_true hm];rfl)))
         clear H hm HMe HA hcl
         go_wp2_with (first | (go_at_call 276;refine HC.out.mono ?_;rintro e w3 ⟨rfl,hb3⟩) | fail)
         go_ret
         exact ⟨by rw [E.out];rfl,HB.out.trans (hb3.mono HB.out.size)⟩
        ·have hm2:(methodN ls[k] == 0)=false:=by rw [beq_eq_false_iff_ne];exact hm
         have H2:=hide (show true=true→∀x∈ls.take (k+1),methodN x≠0 from fun e x hx=>by
          rw [List.take_succ_eq_append_getElem hlt] at hx
          rcases List.mem_append.1 hx with hx | hx
          ·exact H.out rfl x hx
          ·simp only [List.mem_singleton] at hx
           subst hx
           exact hm)
         clear H HMe HA hm hcl
         go_wp2_with (first | (go_at_call 276;refine HC.out.mono ?_;rintro e w3 ⟨rfl,hb3⟩) | fail)
         have HB3:=hide (HB.out.trans (hb3.mono HB.out.size))
         go_round
         case rel=>exact ⟨⟨k+1,hlt,by go_num,H2⟩,HB3⟩
         case measure=>simp [intOf];omega
      ·have hltI:¬ (k:Int)<ls.length:=by omega
       have E:=hide (show listW ls kex=0 from by
        cases kex with
        | false=>exact listW_f Hz.out
        | true =>
         have hkw:kexW ls=true:=by
          unfold kexW
          rw [List.all_eq_true]
          intro x hx
          rw [decide_eq_false (H.out rfl x (by rw [List.take_of_length_le (by omega)];exact hx))]
          rfl
         exact listW_y Hz.out hkw true)
       clear H HMe HA
       go_wp2_with fail
       go_ret
       exact ⟨by rw [E.out];rfl,HB.out⟩
end
end Go.Proofs.YtnhekaepgpbijaaGreatDoor
