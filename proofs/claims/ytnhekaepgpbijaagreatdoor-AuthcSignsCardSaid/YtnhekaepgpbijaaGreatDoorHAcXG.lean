/- Several of my texts in one: AcG, AcK, AcW, AcX, AcSp. -/
import Derived.Test.YtnhekaepgpbijaaGreatDoorHAcTG
import Derived.Test.YtnhekaepgpbijaaGreatDoorHSignQG
import Derived.BigQuiet
import Derived.Test.YtnhekaepgpbijaaGreatDoorHAuTkG
import Derived.Test.YtnhekaepgpbijaaGreatDoorHAcMG
import Derived.Test.YtnhekaepgpbijaaGreatDoorHSignCG
import Derived.Test.YtnhekaepgpbijaaGreatDoorHPayMG
set_option linter.unusedVariables false
set_option linter.unusedSimpArgs false
set_option maxHeartbeats 40000000
set_option maxRecDepth 100000
namespace Go.Proofs.YtnhekaepgpbijaaGreatDoor
open Go.RowKit Go.ChangeShapes Go.WideShapes Go.Sort
theorem dataT_some {s:ByteArray} {t:Tm} (h:tData s=some t):t=.mk 1 0 0 s []:=by
 unfold tData lim at h
 split at h
 ·exact (Option.some.inj h).symm
 ·cases h
theorem pub_len {who:Int} {t:Tm} (h:tPub (tKey who)=some t):(enc t).length≤100:=by
 unfold tKey at h
 split at h
 ·obtain rfl:=Option.some.inj h
  simp [enc,encs,head,mid,q4]
 ·cases h
theorem user_len {o:Option Tm} {user service alg:ByteArray} {who:Int} {t:Tm} (h:userO o user service alg who=some t) (ho:∀u,o=some u→(enc u).length≤1000):(enc t).length≤user.size+service.size+2*alg.size+1500:=by
 obtain ⟨_,r,hr,rfl⟩:=user_some h
 have hl:=congrArg List.length hr
 simp only [reqL,List.length_cons,List.length_nil,List.length_map] at hl
 match r,hl with
 | [a0,a1,a2,a3,a4,a5,a6,a7],_ =>
  simp only [reqL,List.map_cons,List.map_nil,List.cons.injEq,and_true] at hr
  obtain ⟨h0,h1,h2,h3,h4,h5,h6,h7⟩:=hr
  have z0:=ho _ h0
  have z7:=pub_len h7
  obtain rfl:=dataT_some h1
  obtain rfl:=dataT_some h2
  obtain rfl:=dataT_some h3
  obtain rfl:=dataT_some h4
  obtain rfl:=dataT_some h5
  obtain rfl:=dataT_some h6
  have y1:=encD_len numB
  have y2:=encD_len user
  have y3:=encD_len service
  have y4:=encD_len mthB
  have y5:=encD_len sgnB
  have y6:=encD_len alg
  have s1:numB.size≤100:=by decide
  have s4:mthB.size≤100:=by decide
  have s5:sgnB.size≤100:=by decide
  have key:(enc (.mk 6 0 0 alg [.mk 3 who.toNat 0 eB [],.mk 10 0 0 eB [a0,.mk 1 0 0 numB [],.mk 1 0 0 user [],.mk 1 0 0 service [],.mk 1 0 0 mthB [],.mk 1 0 0 sgnB [],.mk 1 0 0 alg [],a7]])).length=1+(4+alg.size)+(5+(5+((enc a0).length+((enc (.mk 1 0 0 numB [])).length+((enc (.mk 1 0 0 user [])).length+((enc (.mk 1 0 0 service [])).length+((enc (.mk 1 0 0 mthB [])).length+((enc (.mk 1 0 0 sgnB [])).length+((enc (.mk 1 0 0 alg [])).length+(enc a7).length))))))))):=by
   simp only [enc,encs,head,mid,List.length_append,List.length_cons,List.length_nil,q4_len,size_len]
   omega
  omega
theorem sig_len {o:Option Tm} {user service alg:ByteArray} {who:Int} {t:Tm} (h:userO o user service alg who=some t) (ho:∀u,o=some u→(enc u).length≤1000) (h1:user.size≤1000) (h2:service.size≤1000) (h3:alg.size≤1000):bytF t=some (sigB_ t)∧(sigB_ t).length≤100000:=by
 have hk:t.k≠1:=by
  obtain ⟨_,r,_,rfl⟩:=user_some h
  exact (show (6:Nat)≠1 by decide)
 have hb:=bytF_n hk
 have hs:sigB_ t=enc t:=by unfold sigB_;rw [hb];rfl
 rw [hs]
 exact ⟨hb,by have:=user_len h ho;omega⟩
section
variable {q : ClQ} {T T' : List Tm} {S S' : Nat → Prop} {s : CliS} {z : TkP} {W W' : World}
theorem sgn_none (h:userO q.sid (bs q.us) (bs connectL) (bs s.alg) (keyC q.ky (s.tried - 1))=none):sgnC q.us q.ky q.sid s=failC s [signatureL] 2:=by unfold sgnC;rw [h]
theorem sgn_some {t:Tm} (h:userO q.sid (bs q.us) (bs connectL) (bs s.alg) (keyC q.ky (s.tried - 1))=some t):sgnC q.us q.ky q.sid s=encC 50 (abtC q.us s.alg (pubB (keyC q.ky (s.tried - 1))) 1++[⟨116,0,sigB_ t,[]⟩]) ⟨3,s.told,s.taken,s.tried,s.alg⟩ (some (3,keyC q.ky (s.tried - 1),s.alg)):=by unfold sgnC;rw [h]
theorem csign_none (h:CliM q T S s z W) (h1:1≤s.tried) (hT:T.length≤700000) (hn:userO q.sid (bs q.us) (bs connectL) (bs s.alg) (keyC q.ky (s.tried - 1))=none):Calls Tryz.prog 133 #[.pointer (some ⟨q.b,0,none⟩)] W (QryR q T S z W 100 (sgnC q.us q.ky q.sid s)):=by
 have E:=hide (sgn_none (q:=q) (s:=s) hn)
 rw [E.out]
 have HK:=hide (fun (V:World) (hb:Below W.heap.size W V)=>(ckey_any (h.below hb) h1).mono fun e w' h9=>(show e=.returned (.int .i64 (keyC q.ky (s.tried - 1)))∧Below W.heap.size W w' from ⟨h9.1,hb.trans (h9.2.mono hb.size)⟩))
 have HU:=hide (fun (V:World) (hb:Below W.heap.size W V)=>suser_any (h.pay.use.below hb) h.id (user:=bs q.us) (service:=bs connectL) (alg:=bs s.alg) (by have:=h.ok.us2;rw [bs_size];omega) (by rw [bs_size];decide) (by have:=h.alz;rw [bs_size];omega) (keyC q.ky (s.tried - 1)) (by omega))
 rw [hn] at HU
 rw [show bs connectL=⟨#[115,115,104,45,99,111,110,110,101,99,116,105,111,110]⟩ from rfl] at HU
 have c0:=h.c0
 have c17:=h.c17
 have c24:=h.c24
 have c29:=h.c29
 have HO:=hide (fun (V:World)=>fof_any ⟨#[115,105,103,110,97,116,117,114,101]⟩ 2 (by decide) V)
 have HM:=hide h
 have nb:¬ S q.b:=h.zone.no h.lob (Nat.lt_succ_self _)
 generalize keyC q.ky (s.tried - 1)=who at HK HU
 generalize bs q.us=us at c17 HU
 generalize bs s.alg=al at c29 HU
 have HC:=hide (And.intro c0 (And.intro c17 (And.intro c24 c29)))
 clear h h1 hn
 go_enter Tryz.func133,Tryz.ntmps133
 go_upto_region 1 with fail
 go_region_held3 (fun V=>V.cell? ⟨q.b,0,none⟩=some (.pointer (some ⟨q.g,0,none⟩))∧V.cell? ⟨q.b,17,none⟩=some (.string us)∧V.cell? ⟨q.b,24,none⟩=some (.int .i64 q.n)∧V.cell? ⟨q.b,29,none⟩=some (.string al))
  (exact ⟨c0,c17,c24,c29⟩)
  (first
   | (go_at_call 132;refine (HK.out _ (by exact bel_by)).mono ?_;rintro e wq ⟨rfl,hbq⟩;replace c0:=cellB hbq HC.out.1;replace c17:=cellB hbq HC.out.2.1;replace c24:=cellB hbq HC.out.2.2.1;replace c29:=cellB hbq HC.out.2.2.2)
   | (go_at_call 56;refine (HU.out _ (by exact bel_by)).mono ?_;rintro e w3 ⟨T3,n3,S3,rfl,hi3,hp3,hl3,hA3,hG3⟩;replace c0:=hG3.outs.cell c0 nb;replace c17:=hG3.outs.cell c17 nb;replace c24:=hG3.outs.cell c24 nb;replace c29:=hG3.outs.cell c29 nb)
   | fail)
 have hn3:n3=-1:=hi3.none_iff.2 rfl
 subst hn3
 have hGG:=(Grown.of_below (S:=S) hbq).trans hG3
 have hPP:=(HM.out.pay.below hbq).grown hG3 hA3 (by omega)
 have HM3:=hide (HM.out.grown hGG hPP hp3)
 have HG3:=hide (hGG.sb q.b q.b)
 have Hp:=hide (And.intro hp3 hl3)
 clear hGG hPP hi3 hp3 hl3 hA3 hG3 c0 c17 c24 c29 HC HU HK hbq
 go_wp2_with fail
 refine (HO.out _).mono ?_
 rintro e w4 ⟨b,rfl,hi4,hb4⟩
 have Hi:=hide (And.intro hi4 hb4)
 clear hi4 hb4
 go_wp2_with fail
 go_ret2
 exact ⟨T3,S3,errV b,rfl,Hi.out.1,Hp.out.1,(by have:=Hp.out.2;omega),HM3.out.below Hi.out.2,HG3.out.trans ((Grown.of_below Hi.out.2).sb _ _)⟩
theorem own_blk4 {w:World} {lo b n:Nat} {t:TypeId} {xs:List Value} (h:Blk w b t xs.toArray) (hl:lo≤b) (hx:xs.length=n*4) (hm:n≤maxLen):w.ownsRow lo t 4 (.slice (some ⟨b,0,none⟩) n n) n xs :=
 ⟨hx,.inr ⟨b,n,xs.toArray,rfl,hl,h,Nat.le_refl _,hm,by simpa using hx,by rw [List.take_of_length_le (by simp [hx])]⟩⟩
theorem flds_own {w:World} {lo n d:Nat} {A:Option Addr} {l:List Fld} (h:w.ownsRow lo 60 4 (.slice A n d) n (l.flatMap fcells)) (hl:∀x∈l,x.l=[]∧x.k<256) (hn:n=l.length) (h1:1≤l.length):Flds w A l:=by
 obtain ⟨g,cap,hv,_,hlt⟩:=h.form (by omega)
 have hA:A=some ⟨g,0,none⟩:=by injection hv
 subst hA
 have hcl:=h.cells (g:=g) rfl
 refine ⟨fun i x hx=>?_⟩
 have hc:∀j v,j<4→(fcells x)[j]?=some v→w.cell? ⟨g,i*4+j,none⟩=some v:=fun j v hj hv2=>by
  have:=hcl (i*4+j) v (by rw [flat4 l i j hj,hx];exact hv2)
  rwa [add_zero_] at this
 obtain ⟨hx1,hx2⟩:=hl x (List.mem_of_getElem? hx)
 refine ⟨⟨g,0,none⟩,.slice none 0 0,rfl,hlt,?_⟩
 rw [add_zero_]
 exact ⟨hc 0 _ (by omega) rfl,hc 1 _ (by omega) rfl,hc 2 _ (by omega) rfl,hc 3 _ (by omega) rfl,by rw [hx1];exact txc_nil w 0,hx2⟩
theorem csign_some (h:CliM q T S s z W) (h1:1≤s.tried) (hT:T.length≤700000) {t:Tm} (hn:userO q.sid (bs q.us) (bs connectL) (bs s.alg) (keyC q.ky (s.tried - 1))=some t):Calls Tryz.prog 133 #[.pointer (some ⟨q.b,0,none⟩)] W (QryR q T S z W 100 (sgnC q.us q.ky q.sid s)):=by
 have E:=hide (sgn_some (q:=q) (s:=s) hn)
 rw [E.out]
 have hsg:=sig_len hn h.ok.sidz (by have:=h.ok.us2;rw [bs_size];omega) (by rw [bs_size];decide) (by have:=h.alz;rw [bs_size];omega)
 have Hsg:=hide hsg
 have HK:=hide (fun (V:World) (hb:Below W.heap.size W V)=>(ckey_any (h.below hb) h1).mono fun e w' h9=>(show e=.returned (.int .i64 (keyC q.ky (s.tried - 1)))∧Below W.heap.size W w' from ⟨h9.1,hb.trans (h9.2.mono hb.size)⟩))
 have HU:=hide (fun (V:World) (hb:Below W.heap.size W V)=>suser_any (h.pay.use.below hb) h.id (user:=bs q.us) (service:=bs connectL) (alg:=bs s.alg) (by have:=h.ok.us2;rw [bs_size];omega) (by rw [bs_size];decide) (by have:=h.alz;rw [bs_size];omega) (keyC q.ky (s.tried - 1)) (by omega))
 rw [hn] at HU
 rw [show bs connectL=⟨#[115,115,104,45,99,111,110,110,101,99,116,105,111,110]⟩ from rfl] at HU
 have c0:=h.c0
 have c17:=h.c17
 have c24:=h.c24
 have c29:=h.c29
 have HM:=hide h
 have nb:¬ S q.b:=h.zone.no h.lob (Nat.lt_succ_self _)
 have hus:=h.ok.us2
 have hal:=h.alz
 generalize hw:keyC q.ky (s.tried - 1)=who at HK HU
 generalize hu:bs q.us=us at c17 HU
 generalize ha:bs s.alg=al at c29 HU
 have HC:=hide (And.intro c0 (And.intro c17 (And.intro c24 c29)))
 have Hw:=hide hw
 clear h hn hw hu ha hsg
 go_enter Tryz.func133,Tryz.ntmps133
 go_upto_region 1 with fail
 go_region_held3 (fun V=>V.cell? ⟨q.b,0,none⟩=some (.pointer (some ⟨q.g,0,none⟩))∧V.cell? ⟨q.b,17,none⟩=some (.string us)∧V.cell? ⟨q.b,24,none⟩=some (.int .i64 q.n)∧V.cell? ⟨q.b,29,none⟩=some (.string al))
  (exact ⟨c0,c17,c24,c29⟩)
  (first
   | (go_at_call 132;refine (HK.out _ (by exact bel_by)).mono ?_;rintro e wq ⟨rfl,hbq⟩;replace c0:=cellB hbq HC.out.1;replace c17:=cellB hbq HC.out.2.1;replace c24:=cellB hbq HC.out.2.2.1;replace c29:=cellB hbq HC.out.2.2.2)
   | (go_at_call 56;refine (HU.out _ (by exact bel_by)).mono ?_;rintro e w3 ⟨T3,n3,S3,rfl,hi3,hp3,hl3,hA3,hG3⟩;replace c0:=hG3.outs.cell c0 nb;replace c17:=hG3.outs.cell c17 nb;replace c24:=hG3.outs.cell c24 nb;replace c29:=hG3.outs.cell c29 nb)
   | fail)
 have hn3:(n3 == -1)=false:=by
  rw [beq_eq_false_iff_ne]
  intro e
  cases hi3.none_iff.1 e
 have hGG:=(Grown.of_below (S:=S) hbq).trans hG3
 have hPP:=(HM.out.pay.below hbq).grown hG3 hA3 (by omega)
 have hM3:=HM.out.grown hGG hPP hp3
 have HM3:=hide hM3
 have HG3:=hide (hGG.sb q.b q.b)
 have Hp:=hide (And.intro hp3 hl3)
 have HA:=hide (cabout_any hM3 h1 (by omega) 1)
 have HI:=hide hi3
 clear hGG hPP hi3 hp3 hA3 hG3 c0 c17 c24 c29 HC HU HK hbq hM3 nb
 unfold AbtR at HA
 go_wp2_with fail
 refine HA.out.mono ?_
 rintro e w4 ⟨b,T4,S4,rfl,hB4,hb4,nb4,hp4,hl4,hM4,hG4⟩
 obtain ⟨w5,hw5⟩:∃W5,W5=w4.alloc (.cells #[.int .i64 50,.slice (some ⟨b,0,none⟩) 6 6] 55):=⟨_,rfl⟩
 have hb5:Below w4.heap.size w4 w5:=by rw [hw5];exact bel_newF _
 have hX5:Blk w5 w4.heap.size 55 #[.int .i64 50,.slice (some ⟨b,0,none⟩) 6 6]:=by rw [hw5];exact Blk.new w4 _ _
 have hM5:=hM4.below hb5
 have c0:=hM5.c0
 have hi4:=HI.out.pre hp4
 have HB:=fbytes_any hM5.pay.ar hM5.pay.use.tab n3
 rw [hi4.1] at HB
 have HB:Calls Tryz.prog 206 #[.pointer (some ⟨q.g,0,none⟩),.int .i64 n3] w5 (ByP (bytF t) w5):=HB
 rw [Hsg.out.1] at HB
 have HB:=hide (show Calls Tryz.prog 206 #[.pointer (some ⟨q.g,0,none⟩),.int .i64 n3] w5 (fun e w'=>e=.returned (.tuple #[.string (bs (sigB_ t)),.bool true])∧Below w5.heap.size w5 w') from HB)
 have hM3:=HM3.out
 have hB0:=hM3.lo0
 have hB1:=hM3.lob
 have hB2:=hM3.blt
 have hB3:=hM3.tk.2.2.1
 have hbl4:=hB4.lt
 have hown4:w4.ownsRow b 60 4 (.slice (some ⟨b,0,none⟩) 6 6) 6 ((abtC q.us s.alg (pubB (keyC q.ky (s.tried - 1))) 1).flatMap fcells):=own_blk4 (by rw [←abt_cells];exact hB4) (Nat.le_refl _) rfl (by unfold maxLen;omega)
 have HG4:=hide (HG3.out.trans (hG4.sb q.b q.b))
 have Hp4:=hide (show T <+: T4∧T4.length≤T.length+13 from ⟨Hp.out.1.trans hp4,by have:=Hp.out.2;omega⟩)
 obtain ⟨bm,hbm⟩:∃bm,bm=w4.heap.size:=⟨_,rfl⟩
 rw [←hbm] at hX5 hbl4
 have nbm:¬ S4 bm:=fun h9=>by have:=hM4.pay.ar.sL _ h9;omega
 have hs34:=hG4.size
 have HN:=hide (show (q.B≤b∧q.b<b∧z.hi≤b)∧q.B≤bm∧q.b<bm∧z.hi≤bm from ⟨⟨by omega,by omega,by omega⟩,by omega,by omega,by omega⟩)
 have HWb:=hide (show W.heap.size≤b∧W.heap.size≤bm from by have:=HG3.out.size;omega)
 have Hown5:=hide (own_belowN hown4 hb5)
 have HM5:=hide hM5
 have Hb5:=hide hb5
 have HX5:=hide hX5
 clear hB4 hown4 hM3 hi4 hp4 hM4 hG4 HI HA HM3 HG3 Hp hB0 hB1 hB2 hB3 hM5 hl4 hl3 HM hb5
 have hbne:b≠bm:=by omega
 go_upto_region 5 with fail
 rw [←hbm,← hw5]
 clear hw5 hbm
 go_wp2_with fail
 refine HB.out.mono ?_
 rintro e w6 ⟨rfl,hb6⟩
 have hX6:=HX5.out.below hb6 HX5.out.lt
 have x1:=hX6.cell 1
 have fx1:=hX6.frozen 1
 simp only [List.getElem?_toArray,List.getElem?_cons_zero,List.getElem?_cons_succ] at x1
 have Hown6:=hide (own_belowN Hown5.out hb6)
 have HM6:=hide (HM5.out.below hb6)
 have HX6:=hide hX6
 have Hb6:=hide (Hb5.out.trans (hb6.mono Hb5.out.size))
 have hsb:b<w6.heap.size:=by have:=Hb6.out.size;have:=HX5.out.lt;have:=hb6.size;omega
 obtain ⟨iF,hiF,hF0,hF1,hF2⟩:=info_partsN infoFd
 generalize hsg:bs (sigB_ t)=sg
 have Hsg2:=hide hsg
 clear hsg hX6 hb6 HB c0 HX5 Hown5 HM5 Hb5
 go_upto_region 7 with (first | (at_builtin;refine wpList_append_any _ rfl (.tmp 43) (.tmp 46) _ rfl b 60 iF (.agg #[.int .u8 0,.int .i64 0,.string ⟨#[]⟩,.slice none 0 0]) 4 56 Tryz.underlying53 hiF hF0 hF1 hF2 rfl (by decide) (.slice (some ⟨b,0,none⟩) 6 6) 6 _ rfl (own_belowN Hown6.out (bel_newF _)) _ (some ⟨_,0,none⟩) 1 1 [.int .u8 116,.int .i64 0,.string sg,.slice none 0 0] rfl (reads_blkN (Blk.new _ _ _) rfl) (by simp [Value.oneCell']) (by unfold maxLen;omega) (by omega) (by simp only [World.size_alloc];omega) ?_;intro v7 w7 hown7 hgr7 hor7;obtain ⟨A7,c7,rfl⟩:=own_slN hown7;simp only [Nat.reduceAdd] at hown7 hgr7 hor7 ⊢;have hX7:=(HX6.out.alloc _).grown hgr7 (fun e=>hbne (Option.some.inj e).symm);have x1:=hX7.cell 1;have fx1:=hX7.frozen 1;simp only [List.getElem?_toArray,List.getElem?_cons_zero,List.getElem?_cons_succ] at x1) | fail)
 have hM7:=(HM6.out.below (bel_newF (.cells #[.int .u8 116,.int .i64 0,.string sg,.slice none 0 0] 60))).row hgr7 nb4 HN.out.1.1 HN.out.1.2.1 HN.out.1.2.2
 have k8:w7.grownBy (w7.setCell ⟨bm,1,none⟩ (.slice A7 7 c7)) (some bm):=only_setCell (only_refl w7 (some bm)) (.inl rfl) _
 have hM8:=hM7.row k8 nbm HN.out.2.1 HN.out.2.2.1 HN.out.2.2.2
 have hX8:=hX7.set_ 1 (.slice A7 7 c7)
 simp at hX8
 have hown8:=own_setB hown7 hX7 (by decide) 1 (.slice A7 7 c7)
 have hG8:=((HG4.out.trans ((Grown.of_below (Hb6.out.trans ((bel_newF (.cells #[.int .u8 116,.int .i64 0,.string sg,.slice none 0 0] 60)).mono Hb6.out.size))).sb q.b q.b)).keepNew hgr7 (fun i e=>by cases e;exact HWb.out.1)).keepNew k8 (fun i e=>by cases e;exact HWb.out.2)
 obtain ⟨w8,hw8⟩:∃W8,W8=w7.setCell ⟨bm,1,none⟩ (.slice A7 7 c7):=⟨_,rfl⟩
 rw [←hw8] at hM8 hX8 hown8 hG8
 rw [←hw8]
 clear hw8 k8 hM7 hX7 hown7 hgr7 hor7 x1 fx1
 have c25:=hM8.c25
 have f25:=hM8.cb.frz 25
 generalize ((s.ph:Nat):Int)=ph at c25
 have hM9:=hM8.ph_ 3
 have hG9:=hG8.trans (hM8.gr_ 1 (.int .i64 3))
 have hown9:=own_setB hown8 hM8.cb.blk (by decide) 25 (.int .i64 3)
 have hX9:=hX8.far (p:=⟨q.b,25,none⟩) (by show bm≠q.b;have:=HN.out.2.2.1;omega) (.int .i64 3)
 obtain ⟨w9,hw9⟩:∃W9,W9=w8.setCell ⟨q.b,25,none⟩ (.int .i64 3):=⟨_,rfl⟩
 have hM9:CliM q T4 S4 { s with ph:=3 } z w9:=by rw [hw9];exact hM9
 have hG9:Grown (SB q.b q.b S) W (SB q.b q.b S4) w9:=by rw [hw9];exact hG9
 rw [←hw9] at hown9 hX9
 have HM9:=hide hM9
 have HG9:=hide hG9
 have HX9:=hide hX9
 have hfl:Flds w9 A7 (abtC q.us s.alg (pubB (keyC q.ky (s.tried - 1))) 1++[⟨116,0,sigB_ t,[]⟩]):=flds_own (by
  rw [List.flatMap_append]
  have h9:=hown9
  rw [←Hsg2.out] at h9
  exact h9) (fun x hx=>by
  rcases List.mem_append.1 hx with hx | hx
  ·simp only [abtC,List.mem_cons,List.not_mem_nil,or_false] at hx
   rcases hx with rfl | rfl | rfl | rfl | rfl | rfl
   ·exact ⟨rfl,show (115:Nat)<256 by decide⟩
   ·exact ⟨rfl,show (115:Nat)<256 by decide⟩
   ·exact ⟨rfl,show (115:Nat)<256 by decide⟩
   ·exact ⟨rfl,show (98:Nat)<256 by decide⟩
   ·exact ⟨rfl,show (115:Nat)<256 by decide⟩
   ·exact ⟨rfl,show (116:Nat)<256 by decide⟩
  ·simp only [List.mem_singleton] at hx
   subst hx
   exact ⟨rfl,show (116:Nat)<256 by decide⟩) rfl (show 1≤7 by decide)
 have HE:=hide (encode_anyM 50 (c:=c7) hfl (fun x hx=>by
  rcases List.mem_append.1 hx with hx | hx
  ·exact abt_sz hus hal (Nat.le_trans (pubB_100 _) (by decide)) x hx
  ·simp only [List.mem_singleton] at hx
   subst hx
   exact ⟨Hsg.out.2,by simp,by simp⟩) (show (7:Nat)≤1000 by decide))
 have HE:Hid (Calls Tryz.prog 68 #[.agg #[.int .i64 50,.slice A7 7 c7]] w9 (EncP 50 (abtC q.us s.alg (pubB (keyC q.ky (s.tried - 1))) 1++[⟨116,0,sigB_ t,[]⟩]) w9)):=HE
 clear hfl hown9 hown8 hX8 hM8 hG8 hM9 hG9
 have y0:=hX9.cell 0
 have y1:=hX9.cell 1
 simp only [List.getElem?_toArray,List.getElem?_cons_zero,List.getElem?_cons_succ] at y0 y1
 clear hX9
 go_upto_region 8 with fail
 rw [←hw9]
 clear hw9 c25 f25
 go_wp2_with fail
 refine HE.out.mono ?_
 rintro e w10 ⟨hb10,⟨q4,hq4,rfl⟩ | ⟨b10,ps,k4,hk4,rfl,hi10⟩⟩
 ·have Hq:=hide hq4
  have Hb:=hide hb10
  clear hb10 hq4
  generalize hy:bs q4=y
  have Hy:=hide hy
  clear hy
  go_wp2_with fail
  go_ret2
  rw [←Hw.out,encC_ok Hq.out]
  exact ⟨T4,S4,.nilIface,(by rw [←Hy.out];rfl),rfl,Hp4.out.1,(by have:=Hp4.out.2;omega),HM9.out.below Hb.out,HG9.out.trans ((Grown.of_below Hb.out).sb _ _)⟩
 ·have Hq:=hide hk4
  have Hb:=hide (And.intro hb10 hi10)
  clear hb10 hi10 hk4
  go_wp2_with fail
  go_ret2
  rw [←Hw.out,encC_err Hq.out]
  exact ⟨T4,S4,errV b10,rfl,Hb.out.2,Hp4.out.1,(by have:=Hp4.out.2;omega),HM9.out.below Hb.out.1,HG9.out.trans ((Grown.of_below Hb.out.1).sb _ _)⟩
end
section
variable {q : ClQ} {T T' : List Tm} {S S' : Nat → Prop} {s : CliS} {z : TkP} {W W' : World}
theorem getV_any {A:Option Addr} {c:Nat} {l:List Fld} (hF:Flds W A l) (hl:l.length≤20) (num:Int) (i:Nat):∃B m d,∀V,Below W.heap.size W V→Calls Tryz.prog 108 #[.agg #[.int .i64 num,.slice A l.length c],.int .i64 i] V (fun e w'=>e=.returned (.agg #[.int .u8 (atF l i).k,.int .i64 (atF l i).n,.string (bs (atF l i).s),.slice B m d])∧Below V.heap.size V w'):=by
 by_cases hi:i<l.length
 ·obtain ⟨ad,lv,rfl,hab,c0,c1,c2,c3,⟨ht,B3,d3,rfl,hc3⟩,hk⟩:=hF.at_ i l[i] (List.getElem?_eq_getElem hi)
  have ha:atF l i=l[i]:=by unfold atF;rw [List.getElem?_eq_getElem hi];rfl
  rw [ha]
  exact ⟨B3,l[i].l.length,d3,fun V hb=>(get07_in (c:=c) num i hi hl l[i] (At4.below ⟨c0,c1,c2,c3⟩ hb)).mono fun e w' h=>⟨h.1,h.2⟩⟩
 ·have ha:atF l i=⟨0,0,[],[]⟩:=by unfold atF;rw [List.getElem?_eq_none (by omega)];rfl
  rw [ha]
  exact ⟨none,0,0,fun V _=>(get07_out num i V (.inr (by omega))).mono fun e w' h=>⟨h.1,h.2⟩⟩
theorem encC_cases (num:Int) (l:List Fld) (s:CliS) (ev:Option (Int × Int × List UInt8)):(∃ps k,encC num l s ev=failC s ps k)∨∃b,encC num l s ev=(s,⟨b,ev,none⟩):=by
 cases hq:encS num l with
 | ok b=>exact .inr ⟨b,encC_ok hq⟩
 | none=>exact .inl ⟨_,_,encC_err (by rw [hq];rfl)⟩
 | long=>exact .inl ⟨_,_,encC_err (by rw [hq];rfl)⟩
 | bad e i=>exact .inl ⟨_,_,encC_err (by rw [hq];rfl)⟩
theorem sgn_cases:(∃s' ps k,sgnC q.us q.ky q.sid s=failC s' ps k)∨∃b,sgnC q.us q.ky q.sid s=(⟨3,s.told,s.taken,s.tried,s.alg⟩,⟨b,some (3,keyC q.ky (s.tried - 1),s.alg),none⟩):=by
 cases hn:userO q.sid (bs q.us) (bs connectL) (bs s.alg) (keyC q.ky (s.tried - 1)) with
 | none=>exact .inl ⟨s,_,_,sgn_none hn⟩
 | some t =>
  rw [sgn_some hn]
  rcases encC_cases 50 (abtC q.us s.alg (pubB (keyC q.ky (s.tried - 1))) 1++[⟨116,0,sigB_ t,[]⟩]) ⟨3,s.told,s.taken,s.tried,s.alg⟩ (some (3,keyC q.ky (s.tried - 1),s.alg)) with ⟨ps,k,h⟩ | ⟨b,h⟩
  ·exact .inl ⟨_,ps,k,h⟩
  ·exact .inr ⟨b,h⟩
theorem csign_any (h:CliM q T S s z W) (h1:1≤s.tried) (hT:T.length≤700000):Calls Tryz.prog 133 #[.pointer (some ⟨q.b,0,none⟩)] W (QryR q T S z W 100 (sgnC q.us q.ky q.sid s)):=by
 cases hn:userO q.sid (bs q.us) (bs connectL) (bs s.alg) (keyC q.ky (s.tried - 1)) with
 | none=>exact csign_none h h1 hT hn
 | some t=>exact csign_some h h1 hT hn
theorem cstep_52 (h:CliM q T S s z W) {lo:Nat} {A:Option Addr} {c:Nat} {l:List Fld} (HF:FldsN lo W A l) (hlo:∀i,S i→i<lo) (hqb:q.b<lo) (hln:l.length≤20) (hll:∀x∈l,x.l.length≤1000∧∀y∈x.l,y.length≤1000000) (hT:T.length≤690000) (h1:1≤s.tried) :
  Calls Tryz.prog 77 #[.pointer (some ⟨q.b,0,none⟩),.agg #[.int .i64 52,.slice A l.length c]] W (StpR q T S W 15000 (({ s with ph:=4 },⟨[],some (5,keyC q.ky (s.tried - 1),s.alg),none⟩))):=by
 obtain ⟨W0,hW0⟩:∃W0,W0=W.alloc (.cells #[.int .i64 52,.slice A l.length c] 55):=⟨_,rfl⟩
 have hb0:Below W.heap.size W W0:=by rw [hW0];exact bel_newF _
 have hX:Blk W0 W.heap.size 55 #[.int .i64 52,.slice A l.length c]:=by rw [hW0];exact Blk.new W _ _
 have m0:=hX.cell 0
 have m1:=hX.cell 1
 simp only [List.getElem?_toArray,List.getElem?_cons_zero,List.getElem?_cons_succ] at m0 m1
 have HM0:=hide (h.below hb0)
 have HF0:=hide (HF.below hb0)
 have Hb0:=hide hb0
 have hq1:q.b+1≤lo:=hqb
 have c25:=HM0.out.c25
 have f25:=HM0.out.cb.frz 25
 generalize ((s.ph:Nat):Int)=ph at c25
 clear h hb0 hX HF
 go_enter Tryz.func77,Tryz.ntmps77
 go_upto_region 1 with fail
 rw [←hW0]
 clear hW0
 go_wp2_with fail
 obtain ⟨w1,hw1⟩:∃W1,W1=W0.setCell ⟨q.b,25,none⟩ (.int .i64 4):=⟨_,rfl⟩
 have hM1:CliM q T S { s with ph:=4 } z w1:=by rw [hw1];exact HM0.out.ph_ 4
 have hG1:Grown (SB q.b q.b S) W0 (SB q.b q.b S) w1:=by rw [hw1];exact HM0.out.gr_ 1 (.int .i64 4)
 have HM1:=hide hM1
 have HG1:=hide (((Grown.of_below Hb0.out).sb q.b q.b).trans hG1)
 have HE:=hide (cevent_any hM1 h1 5)
 unfold EvtR at HE
 rw [←hw1]
 clear hw1 hM1 hG1 c25 f25
 refine HE.out.mono ?_
 rintro e w2 ⟨b,rfl,hB2,hb2,hn2⟩
 have Hf:=hide (And.intro hB2 hb2)
 have Hn:=hide (show ¬ S b from fun h9=>by have:=HM1.out.pay.ar.sL b h9;omega)
 clear hB2 hb2 hn2
 go_wp2_with fail
 go_ret3
 exact ⟨T,S,z,_,.nilIface,rfl,⟨b,rfl,Hf.out.1,Hn.out⟩,rfl,List.prefix_refl _,by omega,HM1.out.below Hf.out.2,HG1.out.trans ((Grown.of_below Hf.out.2).sb _ _)⟩
theorem cstep_60a (h:CliM q T S s z W) {lo:Nat} {A:Option Addr} {c:Nat} {l:List Fld} (HF:FldsN lo W A l) (hlo:∀i,S i→i<lo) (hqb:q.b<lo) (hln:l.length≤20) (hll:∀x∈l,x.l.length≤1000∧∀y∈x.l,y.length≤1000000) (hT:T.length≤690000) (h1:1≤s.tried) (hs:(atF l 0).s≠s.alg) :
  Calls Tryz.prog 77 #[.pointer (some ⟨q.b,0,none⟩),.agg #[.int .i64 60,.slice A l.length c]] W (StpR q T S W 15000 (failC s [keyL_] 12)):=by
 obtain ⟨W0,hW0⟩:∃W0,W0=W.alloc (.cells #[.int .i64 60,.slice A l.length c] 55):=⟨_,rfl⟩
 have hb0:Below W.heap.size W W0:=by rw [hW0];exact bel_newF _
 have hX:Blk W0 W.heap.size 55 #[.int .i64 60,.slice A l.length c]:=by rw [hW0];exact Blk.new W _ _
 have m0:=hX.cell 0
 have m1:=hX.cell 1
 simp only [List.getElem?_toArray,List.getElem?_cons_zero,List.getElem?_cons_succ] at m0 m1
 have HM0:=hide (h.below hb0)
 have HF0:=hide (HF.below hb0)
 have Hb0:=hide hb0
 have hq1:q.b+1≤lo:=hqb
 have HKy:=hide (ckey_any HM0.out h1)
 have HPb:=hide (fun (V:World) (hb:Below W0.heap.size W0 V)=>cpub_any (HM0.out.below hb) (keyC q.ky (s.tried - 1)) (by omega))
 unfold PubR at HPb
 have hlo2:=hlo
 have hxl:=hX.lt
 have nx:¬ S W.heap.size:=fun h9=>by have:=h.pay.ar.sL _ h9;omega
 have HX:=hide hX
 have HO:=hide (fun (V:World)=>fof_any ⟨#[107,101,121]⟩ 12 (by decide) V)
 clear h hb0 hX HF
 go_enter Tryz.func77,Tryz.ntmps77
 go_upto_region 1 with fail
 rw [←hW0]
 clear hW0
 go_wp2_with fail
 refine HKy.out.mono ?_
 rintro e w1 ⟨rfl,hb1⟩
 go_wp2_with fail
 refine (HPb.out _ hb1).mono ?_
 rintro e w2 ⟨n2,T2,S2,rfl,hi2,hp2,hl2,hM2,hG2⟩
 have hb01:=Hb0.out.trans (hb1.mono Hb0.out.size)
 have hF2:=flds_keepA (HF0.out.below hb1) hG2 hlo2
 have hX2:=hG2.outs.blk (HX.out.below hb1 HX.out.lt) nx
 have m0:=hX2.cell 0
 have m1:=hX2.cell 1
 simp only [List.getElem?_toArray,List.getElem?_cons_zero,List.getElem?_cons_succ] at m0 m1
 have c29:=hM2.c29
 have m0q:=fun dd oo=>cell_regrown (v:=.int .i64 60) m0 dd oo
 have m1q:=fun dd oo=>cell_regrown (v:=.slice A l.length c) m1 dd oo
 have c29q:=fun dd oo=>cell_regrown (v:=.string (bs s.alg)) c29 dd oo
 obtain ⟨B0,k0,d0,hg0⟩:=getV_any (c:=c) hF2 hln 60 0
 obtain ⟨B1,k1,d1,hg1⟩:=getV_any (c:=c) hF2 hln 60 1
 have G0:=hide (fun dd oo=>Calls.regrown_of (show Calls Tryz.prog 108 #[.agg #[.int .i64 60,.slice A l.length c],.int .i64 0] _ _ from hg0 _ (below_regrown w2 dd oo)))
 have G1:=hide (fun dd oo=>Calls.regrown_of (show Calls Tryz.prog 108 #[.agg #[.int .i64 60,.slice A l.length c],.int .i64 1] _ _ from hg1 _ (below_regrown w2 dd oo)))
 have HM2:=hide hM2
 have HG2:=hide (((Grown.of_below hb01).trans hG2).sb q.b q.b)
 have Hp2:=hide (And.intro hp2 hl2)
 clear hF2 hX2 hg0 hg1 hM2 hG2 hp2 hl2 hi2 HKy HPb m0 m1 c29 HX hb1 hb01
 have e1:((bs (atF l 0).s).toList == (bs s.alg).toList)=false:=by rw [beq_eq_false_iff_ne,bs_toList,bs_toList];exact hs
 go_upto_region 19 with fail
 refine wp_region_quiet_below (by kernel_rfl) (by kernel_rfl) ?_
 repeat (first | go_big_quiet_skip | quiet_step ((first | (go_at_call 108;first | with_reducible exact G0.out _ _ | with_reducible exact G1.out _ _) | fail)))
 refine wpQuiet_nil ?_
 intro _ hwq
 obtain ⟨⟨dq,osq⟩,hwqq⟩:=hwq
 subst hwqq
 have hbq:=below_regrown w2 dq osq
 generalize grow (redrawn w2 dq) osq=wq at hbq ⊢
 clear m0q m1q c29q G0 G1
 go_wp2_with fail
 refine (HO.out _).mono ?_
 rintro e w3 ⟨b,rfl,hi3,hb3⟩
 have Hi:=hide (And.intro hi3 (hbq.trans (hb3.mono hbq.size)))
 clear hi3 hb3 hbq
 go_wp2_with fail
 go_ret3
 exact ⟨T2,S2,z,.slice none 0 0,errV b,rfl,rfl,Hi.out.1,Hp2.out.1,(by have:=Hp2.out.2;omega),HM2.out.below Hi.out.2,HG2.out.trans ((Grown.of_below Hi.out.2).sb _ _)⟩
theorem cstep_60b (h:CliM q T S s z W) {lo:Nat} {A:Option Addr} {c:Nat} {l:List Fld} (HF:FldsN lo W A l) (hlo:∀i,S i→i<lo) (hqb:q.b<lo) (hln:l.length≤20) (hll:∀x∈l,x.l.length≤1000∧∀y∈x.l,y.length≤1000000) (hT:T.length≤690000) (h1:1≤s.tried) (hs:(atF l 0).s=s.alg) (hs2:(atF l 1).s≠pubB (keyC q.ky (s.tried - 1))) :
  Calls Tryz.prog 77 #[.pointer (some ⟨q.b,0,none⟩),.agg #[.int .i64 60,.slice A l.length c]] W (StpR q T S W 15000 (failC s [keyL_] 12)):=by
 obtain ⟨W0,hW0⟩:∃W0,W0=W.alloc (.cells #[.int .i64 60,.slice A l.length c] 55):=⟨_,rfl⟩
 have hb0:Below W.heap.size W W0:=by rw [hW0];exact bel_newF _
 have hX:Blk W0 W.heap.size 55 #[.int .i64 60,.slice A l.length c]:=by rw [hW0];exact Blk.new W _ _
 have m0:=hX.cell 0
 have m1:=hX.cell 1
 simp only [List.getElem?_toArray,List.getElem?_cons_zero,List.getElem?_cons_succ] at m0 m1
 have HM0:=hide (h.below hb0)
 have HF0:=hide (HF.below hb0)
 have Hb0:=hide hb0
 have hq1:q.b+1≤lo:=hqb
 have HKy:=hide (ckey_any HM0.out h1)
 have HPb:=hide (fun (V:World) (hb:Below W0.heap.size W0 V)=>cpub_any (HM0.out.below hb) (keyC q.ky (s.tried - 1)) (by omega))
 unfold PubR at HPb
 have hlo2:=hlo
 have hxl:=hX.lt
 have nx:¬ S W.heap.size:=fun h9=>by have:=h.pay.ar.sL _ h9;omega
 have HX:=hide hX
 have HO:=hide (fun (V:World)=>fof_any ⟨#[107,101,121]⟩ 12 (by decide) V)
 clear h hb0 hX HF
 go_enter Tryz.func77,Tryz.ntmps77
 go_upto_region 1 with fail
 rw [←hW0]
 clear hW0
 go_wp2_with fail
 refine HKy.out.mono ?_
 rintro e w1 ⟨rfl,hb1⟩
 go_wp2_with fail
 refine (HPb.out _ hb1).mono ?_
 rintro e w2 ⟨n2,T2,S2,rfl,hi2,hp2,hl2,hM2,hG2⟩
 have hb01:=Hb0.out.trans (hb1.mono Hb0.out.size)
 have hF2:=flds_keepA (HF0.out.below hb1) hG2 hlo2
 have hX2:=hG2.outs.blk (HX.out.below hb1 HX.out.lt) nx
 have m0:=hX2.cell 0
 have m1:=hX2.cell 1
 simp only [List.getElem?_toArray,List.getElem?_cons_zero,List.getElem?_cons_succ] at m0 m1
 have c29:=hM2.c29
 have m0q:=fun dd oo=>cell_regrown (v:=.int .i64 60) m0 dd oo
 have m1q:=fun dd oo=>cell_regrown (v:=.slice A l.length c) m1 dd oo
 have c29q:=fun dd oo=>cell_regrown (v:=.string (bs s.alg)) c29 dd oo
 obtain ⟨B0,k0,d0,hg0⟩:=getV_any (c:=c) hF2 hln 60 0
 obtain ⟨B1,k1,d1,hg1⟩:=getV_any (c:=c) hF2 hln 60 1
 have G0:=hide (fun dd oo=>Calls.regrown_of (show Calls Tryz.prog 108 #[.agg #[.int .i64 60,.slice A l.length c],.int .i64 0] _ _ from hg0 _ (below_regrown w2 dd oo)))
 have G1:=hide (fun dd oo=>Calls.regrown_of (show Calls Tryz.prog 108 #[.agg #[.int .i64 60,.slice A l.length c],.int .i64 1] _ _ from hg1 _ (below_regrown w2 dd oo)))
 have HM2:=hide hM2
 have HG2:=hide (((Grown.of_below hb01).trans hG2).sb q.b q.b)
 have Hp2:=hide (And.intro hp2 hl2)
 clear hF2 hX2 hg0 hg1 hM2 hG2 hp2 hl2 hi2 HKy HPb m0 m1 c29 HX hb1 hb01
 have e1:((bs (atF l 0).s).toList == (bs s.alg).toList)=true:=by rw [hs];exact beq_self_eq_true _
 have e2:((bs (atF l 1).s).toList == (bs (pubB (keyC q.ky (s.tried - 1)))).toList)=false:=by rw [beq_eq_false_iff_ne,bs_toList,bs_toList];exact hs2
 go_upto_region 19 with fail
 refine wp_region_quiet_below (by kernel_rfl) (by kernel_rfl) ?_
 repeat (first | go_big_quiet_skip | quiet_step ((first | (go_at_call 108;first | with_reducible exact G0.out _ _ | with_reducible exact G1.out _ _) | fail)))
 refine wpQuiet_nil ?_
 intro _ hwq
 obtain ⟨⟨dq,osq⟩,hwqq⟩:=hwq
 subst hwqq
 have hbq:=below_regrown w2 dq osq
 generalize grow (redrawn w2 dq) osq=wq at hbq ⊢
 clear m0q m1q c29q G0 G1
 go_wp2_with fail
 refine (HO.out _).mono ?_
 rintro e w3 ⟨b,rfl,hi3,hb3⟩
 have Hi:=hide (And.intro hi3 (hbq.trans (hb3.mono hbq.size)))
 clear hi3 hb3 hbq
 go_wp2_with fail
 go_ret3
 exact ⟨T2,S2,z,.slice none 0 0,errV b,rfl,rfl,Hi.out.1,Hp2.out.1,(by have:=Hp2.out.2;omega),HM2.out.below Hi.out.2,HG2.out.trans ((Grown.of_below Hi.out.2).sb _ _)⟩
theorem cstep_60g (h:CliM q T S s z W) {lo:Nat} {A:Option Addr} {c:Nat} {l:List Fld} (HF:FldsN lo W A l) (hlo:∀i,S i→i<lo) (hqb:q.b<lo) (hln:l.length≤20) (hll:∀x∈l,x.l.length≤1000∧∀y∈x.l,y.length≤1000000) (hT:T.length≤690000) (h1:1≤s.tried) (hs:(atF l 0).s=s.alg) (hs2:(atF l 1).s=pubB (keyC q.ky (s.tried - 1))) :
  Calls Tryz.prog 77 #[.pointer (some ⟨q.b,0,none⟩),.agg #[.int .i64 60,.slice A l.length c]] W (StpR q T S W 15000 (sgnC q.us q.ky q.sid s)):=by
 obtain ⟨W0,hW0⟩:∃W0,W0=W.alloc (.cells #[.int .i64 60,.slice A l.length c] 55):=⟨_,rfl⟩
 have hb0:Below W.heap.size W W0:=by rw [hW0];exact bel_newF _
 have hX:Blk W0 W.heap.size 55 #[.int .i64 60,.slice A l.length c]:=by rw [hW0];exact Blk.new W _ _
 have m0:=hX.cell 0
 have m1:=hX.cell 1
 simp only [List.getElem?_toArray,List.getElem?_cons_zero,List.getElem?_cons_succ] at m0 m1
 have HM0:=hide (h.below hb0)
 have HF0:=hide (HF.below hb0)
 have Hb0:=hide hb0
 have hq1:q.b+1≤lo:=hqb
 have HKy:=hide (ckey_any HM0.out h1)
 have HPb:=hide (fun (V:World) (hb:Below W0.heap.size W0 V)=>cpub_any (HM0.out.below hb) (keyC q.ky (s.tried - 1)) (by omega))
 unfold PubR at HPb
 have hlo2:=hlo
 have hxl:=hX.lt
 have nx:¬ S W.heap.size:=fun h9=>by have:=h.pay.ar.sL _ h9;omega
 have HX:=hide hX
 clear h hb0 hX HF
 go_enter Tryz.func77,Tryz.ntmps77
 go_upto_region 1 with fail
 rw [←hW0]
 clear hW0
 go_wp2_with fail
 refine HKy.out.mono ?_
 rintro e w1 ⟨rfl,hb1⟩
 go_wp2_with fail
 refine (HPb.out _ hb1).mono ?_
 rintro e w2 ⟨n2,T2,S2,rfl,hi2,hp2,hl2,hM2,hG2⟩
 have hb01:=Hb0.out.trans (hb1.mono Hb0.out.size)
 have hF2:=flds_keepA (HF0.out.below hb1) hG2 hlo2
 have hX2:=hG2.outs.blk (HX.out.below hb1 HX.out.lt) nx
 have m0:=hX2.cell 0
 have m1:=hX2.cell 1
 simp only [List.getElem?_toArray,List.getElem?_cons_zero,List.getElem?_cons_succ] at m0 m1
 have c29:=hM2.c29
 have m0q:=fun dd oo=>cell_regrown (v:=.int .i64 60) m0 dd oo
 have m1q:=fun dd oo=>cell_regrown (v:=.slice A l.length c) m1 dd oo
 have c29q:=fun dd oo=>cell_regrown (v:=.string (bs s.alg)) c29 dd oo
 obtain ⟨B0,k0,d0,hg0⟩:=getV_any (c:=c) hF2 hln 60 0
 obtain ⟨B1,k1,d1,hg1⟩:=getV_any (c:=c) hF2 hln 60 1
 have G0:=hide (fun dd oo=>Calls.regrown_of (show Calls Tryz.prog 108 #[.agg #[.int .i64 60,.slice A l.length c],.int .i64 0] _ _ from hg0 _ (below_regrown w2 dd oo)))
 have G1:=hide (fun dd oo=>Calls.regrown_of (show Calls Tryz.prog 108 #[.agg #[.int .i64 60,.slice A l.length c],.int .i64 1] _ _ from hg1 _ (below_regrown w2 dd oo)))
 have HM2:=hide hM2
 have HG2:=hide (((Grown.of_below hb01).trans hG2).sb q.b q.b)
 have Hp2:=hide (And.intro hp2 hl2)
 clear hF2 hX2 hg0 hg1 hM2 hG2 hp2 hl2 hi2 HKy HPb m0 m1 c29 HX hb1 hb01
 have e1:((bs (atF l 0).s).toList == (bs s.alg).toList)=true:=by rw [hs];exact beq_self_eq_true _
 have e2:((bs (atF l 1).s).toList == (bs (pubB (keyC q.ky (s.tried - 1)))).toList)=true:=by rw [hs2];exact beq_self_eq_true _
 go_upto_region 19 with fail
 refine wp_region_quiet_below (by kernel_rfl) (by kernel_rfl) ?_
 repeat (first | go_big_quiet_skip | quiet_step ((first | (go_at_call 108;first | with_reducible exact G0.out _ _ | with_reducible exact G1.out _ _) | fail)))
 refine wpQuiet_nil ?_
 intro _ hwq
 obtain ⟨⟨dq,osq⟩,hwqq⟩:=hwq
 subst hwqq
 have hbq:=below_regrown w2 dq osq
 generalize grow (redrawn w2 dq) osq=wq at hbq ⊢
 clear m0q m1q c29q G0 G1
 have hMq:=HM2.out.below hbq
 have HS:=hide (csign_any hMq h1 (by have:=Hp2.out.2;omega))
 have HGq:=hide (HG2.out.trans ((Grown.of_below hbq).sb q.b q.b))
 have hcs:=sgn_cases (q:=q) (s:=s)
 have hE3:=fun (o:CliS × OutC) (ho:o.1=⟨3,s.told,s.taken,s.tried,s.alg⟩) (V:World) (T3:List Tm) (S3:Nat→Prop) (hM:CliM q T3 S3 o.1 z V)=>(by rw [ho] at hM;exact cevent_any hM h1 3:Calls Tryz.prog 130 #[.pointer (some ⟨q.b,0,none⟩),.int .i64 3] V (EvtR q.n 3 (keyC q.ky (s.tried - 1)) q.us s.alg V))
 have HE3:=hide hE3
 unfold QryR at HS
 generalize hsg:sgnC q.us q.ky q.sid s=o at HS hcs
 have Hsg:=hide hsg
 clear hsg hE3 hMq hbq e1 e2 hs hs2
 go_wp2_with fail
 refine HS.out.mono ?_
 rintro e w3 ⟨T3,S3,er,rfl,her,hp3,hl3,hM3,hG3⟩
 have Hp3:=hide (show T <+: T3∧T3.length≤T.length+15000 from ⟨Hp2.out.1.trans hp3,by have:=Hp2.out.2;omega⟩)
 have HG3:=hide (HGq.out.trans hG3)
 rcases hcs with ⟨s',ps,k,ho⟩ | ⟨bb,ho⟩
 ·subst ho
  have HM3:=hide hM3
  have Her:=hide her
  obtain ⟨te,ue,rfl⟩:=IsErr.shape her
  clear her hM3 hp3 hl3 hG3 HE3 HS
  go_wp2_with fail
  go_ret3
  rw [Hsg.out]
  exact ⟨T3,S3,z,.slice none 0 0,_,rfl,rfl,Her.out,Hp3.out.1,Hp3.out.2,HM3.out,HG3.out⟩
 ·subst ho
  have her2:er=.nilIface:=her
  subst her2
  have HM3:=hide hM3
  have HEv:=hide (HE3.out _ rfl w3 T3 S3 hM3)
  unfold EvtR at HEv
  clear her hM3 hp3 hl3 hG3 HE3 HS
  generalize hy:bs bb=y
  have Hy:=hide hy
  clear hy
  go_wp2_with fail
  refine HEv.out.mono ?_
  rintro e w4 ⟨b4,rfl,hB4,hb4,hn4⟩
  have Hf:=hide (And.intro hB4 hb4)
  have Hn:=hide (show ¬ S3 b4 from fun h9=>by have:=HM3.out.pay.ar.sL b4 h9;omega)
  clear hB4 hb4 hn4
  go_wp2_with fail
  go_ret3
  rw [Hsg.out]
  exact ⟨T3,S3,z,_,.nilIface,(by rw [←Hy.out];rfl),⟨b4,rfl,Hf.out.1,Hn.out⟩,rfl,Hp3.out.1,Hp3.out.2,HM3.out.below Hf.out.2,HG3.out.trans ((Grown.of_below Hf.out.2).sb _ _)⟩
end
theorem dec_lists {p:List UInt8} {n:Nat} {l:List Fld} (h:decS p=.ok n l) (hp:p.length≤3000):∀x∈l,x.l.length≤1000∧∀y∈x.l,y.length≤1000000:=by
 obtain ⟨he,_⟩:=enc_dec h
 unfold encS at he
 split at he
 ·rename_i hf
  obtain ⟨f1,f2⟩:=fit_get hf
  have hfl:l.length=(fit (n:Int) l.length).1.data.toList.length:=f2.symm.trans (size_len _)
  obtain ⟨e1,e2,e3,_⟩:=encGo_get hfl he
  have hpl:([UInt8.ofNat (n:Int).toNat]++putFs l).length=p.length:=by rw [e3]
  rw [List.length_append,List.length_singleton] at hpl
  intro x hx
  have h0:=putFs_mem hx
  obtain ⟨h1,h2,h3⟩:=putF_big (e2 x hx)
  exact ⟨by omega,fun y hy=>by have:=h3 y hy;omega⟩
 ·cases he
section
variable {q : ClQ} {T T' : List Tm} {S S' : Nat → Prop} {s : CliS} {z : TkP} {W W' : World}
theorem may_num {num:Nat} (h:mayC num s=true):num=7∨num=53∨num=6∨num=51∨(num=52∧s.ph=3)∨(num=60∧s.ph=2):=by
 unfold mayC at h
 split at h
 ·omega
 ·split at h
  ·omega
  ·split at h
   ·exact .inr (.inr (.inr (.inr (.inr ⟨by assumption,of_decide_eq_true h⟩))))
   ·split at h
    ·exact .inr (.inr (.inr (.inr (.inl ⟨by assumption,of_decide_eq_true h⟩))))
    ·split at h
     ·omega
     ·cases h
theorem cstep_any (h:CliM q T S s z W) {lo:Nat} {A:Option Addr} {c:Nat} {l:List Fld} (HF:FldsN lo W A l) (hlo:∀i,S i→i<lo) (hqb:q.b<lo) (hln:l.length≤20) (hll:∀x∈l,x.l.length≤1000∧∀y∈x.l,y.length≤1000000) (hT:T.length≤690000) {num:Nat} (hm:mayC num s=true) (ht:s.ph=2∨s.ph=3→1≤s.tried) :
  Calls Tryz.prog 77 #[.pointer (some ⟨q.b,0,none⟩),.agg #[.int .i64 ((num:Nat):Int),.slice A l.length c]] W (StpR q T S W 15000 (stpC q.us q.al q.ky q.sid s num l)):=by
 unfold stpC
 rcases may_num hm with rfl | rfl | rfl | rfl | ⟨rfl,hp⟩ | ⟨rfl,hp⟩
 ·rw [if_pos rfl]
  exact cstep_7 h HF hlo hqb hln hll hT
 ·rw [if_neg (by decide),if_pos rfl]
  exact cstep_53 h HF hlo hqb hln hll hT
 ·rw [if_neg (by decide),if_neg (by decide),if_pos rfl]
  by_cases hs:(atF l 0).s=userauthL
  ·rw [if_neg (fun h9=>h9 hs)]
   exact cstep_6g h HF hlo hqb hln hll hT hs
  ·rw [if_pos hs]
   exact cstep_6b h HF hlo hqb hln hll hT hs
 ·rw [if_neg (by decide),if_neg (by decide),if_neg (by decide),if_pos rfl]
  by_cases hs:pubkeyL∈(atF l 0).l
  ·rw [if_neg (fun h9=>h9 hs)]
   exact cstep_51g h HF hlo hqb hln hll hT hs
  ·rw [if_pos hs]
   exact cstep_51b h HF hlo hqb hln hll hT hs
 ·rw [if_neg (by decide),if_neg (by decide),if_neg (by decide),if_neg (by decide),if_pos rfl]
  exact cstep_52 h HF hlo hqb hln hll hT (ht (.inr hp))
 ·rw [if_neg (by decide),if_neg (by decide),if_neg (by decide),if_neg (by decide),if_neg (by decide),if_pos rfl]
  by_cases hs:(atF l 0).s=s.alg
  ·by_cases hs2:(atF l 1).s=pubB (keyC q.ky (s.tried - 1))
   ·rw [if_neg (fun h9=>h9.elim (fun h8=>h8 hs) (fun h8=>h8 hs2))]
    exact cstep_60g h HF hlo hqb hln hll hT (ht (.inl hp)) hs hs2
   ·rw [if_pos (.inr hs2)]
    exact cstep_60b h HF hlo hqb hln hll hT (ht (.inl hp)) hs hs2
  ·rw [if_pos (.inl hs)]
   exact cstep_60a h HF hlo hqb hln hll hT (ht (.inl hp)) hs
def TakC (q:ClQ) (T:List Tm) (S:Nat→Prop) (W:World) (o:CliS × OutC) (e:Ending) (w':World):Prop :=
 ∃T' S' z' ov ev er,e=.returned (.tuple #[ov,ev,er])∧OutV w' o.2.out ov∧EvW w' q.n q.us S' o.2.ev ev∧ErV w' o.2.err er∧T <+: T'∧T'.length≤T.length+15000∧CliM q T' S' o.1 z' w'∧Grown (SB q.b q.b S) W (SB q.b q.b S') w'
theorem EvW.below {w w':World} {n:Int} {us:List UInt8} {S:Nat→Prop} {o:Option (Int × Int × List UInt8)} {v:Value} (h:EvW w n us S o v) (hb:Below w.heap.size w w'):EvW w' n us S o v:=by
 cases o with
 | none=>exact h
 | some x =>
  obtain ⟨kd,who,alg⟩:=x
  obtain ⟨b,e,hB,hn⟩:=h
  exact ⟨b,e,hB.below hb hB.lt,hn⟩
theorem ctake_off (h:CliM q T S s z W) (pl:ByteArray) (h3:s.ph=0∨s.ph=5):Calls Tryz.prog 30 #[.pointer (some ⟨q.b,0,none⟩),.string pl] W (TakC q T S W (tkC q.us q.al q.ky q.sid s pl.data.toList)):=by
 generalize hq:tkC q.us q.al q.ky q.sid s pl.data.toList=o
 have ho:o=({ s with ph:=5 },⟨[],none,some ([authcL],7)⟩):=by rw [←hq];unfold tkC;rw [if_pos h3];rfl
 have c25:=h.c25
 have HA:=hide (cfail_any h (er:=.iface 43 (.int .i64 7)) (ps:=[]) (k:=7) rfl)
 have Ho:=hide ho
 clear h hq ho
 rcases h3 with h3 | h3
 ·rw [h3] at c25
  go_enter Tryz.func30,Tryz.ntmps30
  go_wp2_with fail
  refine HA.out.mono ?_
  rintro e w3 ⟨b,rfl,hi3,hM3,hG3⟩
  have Hf:=hide (And.intro hi3 (And.intro hM3 hG3))
  clear hi3 hM3 hG3
  go_wp2_with fail
  go_ret3
  have ho:=Ho.out
  subst ho
  exact ⟨T,S,z,.slice none 0 0,.slice none 0 0,errV b,rfl,⟨fun _=>rfl,fun h9=>absurd rfl h9⟩,rfl,Hf.out.1,List.prefix_refl _,by omega,Hf.out.2.1,Hf.out.2.2⟩
 ·rw [h3] at c25
  go_enter Tryz.func30,Tryz.ntmps30
  go_wp2_with fail
  refine HA.out.mono ?_
  rintro e w3 ⟨b,rfl,hi3,hM3,hG3⟩
  have Hf:=hide (And.intro hi3 (And.intro hM3 hG3))
  clear hi3 hM3 hG3
  go_wp2_with fail
  go_ret3
  have ho:=Ho.out
  subst ho
  exact ⟨T,S,z,.slice none 0 0,.slice none 0 0,errV b,rfl,⟨fun _=>rfl,fun h9=>absurd rfl h9⟩,rfl,Hf.out.1,List.prefix_refl _,by omega,Hf.out.2.1,Hf.out.2.2⟩
theorem ctake_bad (h:CliM q T S s z W) (pl:ByteArray) (hpl:pl.size≤1000000) (h0:s.ph≠0) (h5:s.ph≠5) {ps:List (List UInt8)} {k:Nat} (hk:decErr (decS pl.data.toList)=some (ps,k)):Calls Tryz.prog 30 #[.pointer (some ⟨q.b,0,none⟩),.string pl] W (TakC q T S W (tkC q.us q.al q.ky q.sid s pl.data.toList)):=by
 generalize hq:tkC q.us q.al q.ky q.sid s pl.data.toList=o
 have ho:o=({ s with ph:=5 },⟨[],none,some (authcL :: ps,(k:Int))⟩):=by
  rw [←hq]
  unfold tkC
  rw [if_neg (fun h9=>h9.elim h0 h5)]
  cases hd:decS pl.data.toList with
  | ok num l=>rw [hd] at hk;cases hk
  | all e=>rw [hd] at hk;simp only;rw [hk];rfl
  | bad num R=>rw [hd] at hk;simp only;rw [hk];rfl
 have c25:=h.c25
 have e0:(((s.ph:Nat):Int) == 0)=false:=by rw [beq_eq_false_iff_ne];omega
 have e5:(((s.ph:Nat):Int) == 5)=false:=by rw [beq_eq_false_iff_ne];omega
 generalize ((s.ph:Nat):Int)=p at c25 e0 e5
 have HD:=hide (decode_anyN pl hpl h.pay.max.maxL)
 have HM:=hide h
 have Ho:=hide ho
 have Hk:=hide hk
 clear h h0 h5 hq ho hk
 go_enter Tryz.func30,Tryz.ntmps30
 go_wp2_with fail
 refine HD.out.mono ?_
 rintro e w1 ⟨hb1,⟨num,l,A,c,hd,rfl,hF⟩ | ⟨b,ps',k',hk',rfl,hi1⟩⟩
 ·have hk:=Hk.out
  rw [hd] at hk
  cases hk
 ·rw [Hk.out] at hk'
  cases hk'
  obtain ⟨w2,hw2⟩:∃W2,W2=w1.alloc (.cells #[.int .i64 0,.slice none 0 0] 55):=⟨_,rfl⟩
  have hb2:Below w1.heap.size w1 w2:=by rw [hw2];exact bel_newF _
  have hb12:=hb1.trans (hb2.mono hb1.size)
  have HA:=hide (cfail_any (HM.out.below hb12) (er:=.iface 168 (.pointer (some ⟨b,0,none⟩))) (ps:=ps) (k:=(k:Int)) (hi1.below hb2))
  have Hb:=hide hb12
  clear hb1 hb2 hb12 hi1 HD
  unfold errV
  go_upto_region 6 with fail
  rw [←hw2]
  clear hw2
  go_wp2_with fail
  refine HA.out.mono ?_
  rintro e w4 ⟨b9,rfl,hi4,hM4,hG4⟩
  have Hf:=hide (And.intro hi4 (And.intro hM4 hG4))
  clear hi4 hM4 hG4
  go_wp2_with fail
  go_ret3
  have ho:=Ho.out
  subst ho
  exact ⟨T,S,z,.slice none 0 0,.slice none 0 0,errV b9,rfl,⟨fun _=>rfl,fun h9=>absurd rfl h9⟩,rfl,Hf.out.1,List.prefix_refl _,by omega,Hf.out.2.1,((Grown.of_below Hb.out).sb _ _).trans Hf.out.2.2⟩
end
section
variable {q : ClQ} {T T' : List Tm} {S S' : Nat → Prop} {s : CliS} {z : TkP} {W W' : World}
theorem ctake_not (h:CliM q T S s z W) (pl:ByteArray) (hpl:pl.size≤1000000) (h0:s.ph≠0) (h5:s.ph≠5) {num:Nat} {l:List Fld} (hd:decS pl.data.toList=.ok num l) (hm:mayC num s=false):Calls Tryz.prog 30 #[.pointer (some ⟨q.b,0,none⟩),.string pl] W (TakC q T S W (tkC q.us q.al q.ky q.sid s pl.data.toList)):=by
 generalize hq:tkC q.us q.al q.ky q.sid s pl.data.toList=o
 have ho:o=({ s with ph:=5 },⟨[],none,some ([authcL],7)⟩):=by
  rw [←hq]
  unfold tkC
  rw [if_neg (fun h9=>h9.elim h0 h5),hd]
  simp only
  rw [hm,if_neg (by decide)]
  rfl
 have c25:=h.c25
 have e0:(((s.ph:Nat):Int) == 0)=false:=by rw [beq_eq_false_iff_ne];omega
 have e5:(((s.ph:Nat):Int) == 5)=false:=by rw [beq_eq_false_iff_ne];omega
 generalize ((s.ph:Nat):Int)=p at c25 e0 e5
 have HD:=hide (decode_anyN pl hpl h.pay.max.maxL)
 have HM:=hide h
 have Ho:=hide ho
 have Hd:=hide hd
 have HMy:=hide (fun (V:World) (hM:CliM q T S s z V)=>(by have h9:=cmay_any hM num;rw [hm] at h9;exact h9:Calls Tryz.prog 76 #[.pointer (some ⟨q.b,0,none⟩),.int .i64 ((num:Nat):Int)] V (fun e w'=>e=.returned (.bool false)∧Below V.heap.size V w')))
 clear h h0 h5 hq ho hd hm
 go_enter Tryz.func30,Tryz.ntmps30
 go_wp2_with fail
 refine HD.out.mono ?_
 rintro e w1 ⟨hb1,⟨num',l',A,c,hd,rfl,hF⟩ | ⟨b,ps',k',hk',rfl,hi1⟩⟩
 ·rw [Hd.out] at hd
  cases hd
  obtain ⟨w2,hw2⟩:∃W2,W2=w1.alloc (.cells #[.int .i64 ((num:Nat):Int),.slice A l.length c] 55):=⟨_,rfl⟩
  have hb2:Below w1.heap.size w1 w2:=by rw [hw2];exact bel_newF _
  have hX2:Blk w2 w1.heap.size 55 #[.int .i64 ((num:Nat):Int),.slice A l.length c]:=by rw [hw2];exact Blk.new w1 _ _
  have hb12:=hb1.trans (hb2.mono hb1.size)
  have m0:=hX2.cell 0
  have m1:=hX2.cell 1
  simp only [List.getElem?_toArray,List.getElem?_cons_zero,List.getElem?_cons_succ] at m0 m1
  have HM2:=hide (HM.out.below hb12)
  have Hb:=hide hb12
  have HK:=hide (HMy.out w2 HM2.out)
  clear hb1 hb2 hb12 HD HMy hF hX2
  generalize ((num:Nat):Int)=m at hw2 m0 HK ⊢
  go_upto_region 6 with fail
  rw [←hw2]
  clear hw2
  go_wp2_with fail
  refine HK.out.mono ?_
  rintro e w3 ⟨rfl,hb3⟩
  have HA:=hide (cfail_any (HM2.out.below hb3) (er:=.iface 43 (.int .i64 7)) (ps:=[]) (k:=7) rfl)
  have Hb3:=hide (Hb.out.trans (hb3.mono Hb.out.size))
  clear hb3
  go_wp2_with fail
  refine HA.out.mono ?_
  rintro e w4 ⟨b9,rfl,hi4,hM4,hG4⟩
  have Hf:=hide (And.intro hi4 (And.intro hM4 hG4))
  clear hi4 hM4 hG4
  go_wp2_with fail
  go_ret3
  have ho:=Ho.out
  subst ho
  exact ⟨T,S,z,.slice none 0 0,.slice none 0 0,errV b9,rfl,⟨fun _=>rfl,fun h9=>absurd rfl h9⟩,rfl,Hf.out.1,List.prefix_refl _,by omega,Hf.out.2.1,((Grown.of_below Hb3.out).sb _ _).trans Hf.out.2.2⟩
 ·have hd:=Hd.out
  rw [hd] at hk'
  cases hk'
theorem ctake_step (h:CliM q T S s z W) (pl:ByteArray) (hpl:pl.size≤3000) (hT:T.length≤690000) (h0:s.ph≠0) (h5:s.ph≠5) (ht:s.ph=2∨s.ph=3→1≤s.tried) {num:Nat} {l:List Fld} (hd:decS pl.data.toList=.ok num l) (hm:mayC num s=true):Calls Tryz.prog 30 #[.pointer (some ⟨q.b,0,none⟩),.string pl] W (TakC q T S W (tkC q.us q.al q.ky q.sid s pl.data.toList)):=by
 generalize hq:tkC q.us q.al q.ky q.sid s pl.data.toList=o
 have ho:o=wrapC (stpC q.us q.al q.ky q.sid s num l):=by
  rw [←hq]
  unfold tkC
  rw [if_neg (fun h9=>h9.elim h0 h5),hd]
  simp only
  rw [hm,if_pos rfl]
 have hp3:pl.data.toList.length≤3000:=by rw [size_len];exact hpl
 have hln:=(dec_fits hd hp3).2
 have hll:=dec_lists hd hp3
 have c25:=h.c25
 have e0:(((s.ph:Nat):Int) == 0)=false:=by rw [beq_eq_false_iff_ne];omega
 have e5:(((s.ph:Nat):Int) == 5)=false:=by rw [beq_eq_false_iff_ne];omega
 generalize ((s.ph:Nat):Int)=p at c25 e0 e5
 have HD:=hide (decode_anyN pl (by omega) h.pay.max.maxL)
 have HM:=hide h
 have Ho:=hide ho
 have Hd:=hide hd
 have HMy:=hide (fun (V:World) (hM:CliM q T S s z V)=>(by have h9:=cmay_any hM num;rw [hm] at h9;exact h9:Calls Tryz.prog 76 #[.pointer (some ⟨q.b,0,none⟩),.int .i64 ((num:Nat):Int)] V (fun e w'=>e=.returned (.bool true)∧Below V.heap.size V w')))
 have HS:=hide (fun (V:World) (hM:CliM q T S s z V) {A:Option Addr} {c:Nat} (HF:FldsN W.heap.size V A l)=>cstep_any hM (num:=num) (c:=c) HF (fun i hi=>h.pay.ar.sL i hi) h.blt hln hll hT hm ht)
 generalize stpC q.us q.al q.ky q.sid s num l=r at ho HS Ho
 clear h h0 h5 hq ho hd hm ht hpl hp3 hln hll
 go_enter Tryz.func30,Tryz.ntmps30
 go_wp2_with fail
 refine HD.out.mono ?_
 rintro e w1 ⟨hb1,⟨num',l',A,c,hd,rfl,hF⟩ | ⟨b,ps',k',hk',rfl,hi1⟩⟩
 ·rw [Hd.out] at hd
  cases hd
  obtain ⟨w2,hw2⟩:∃W2,W2=w1.alloc (.cells #[.int .i64 ((num:Nat):Int),.slice A l.length c] 55):=⟨_,rfl⟩
  have hb2:Below w1.heap.size w1 w2:=by rw [hw2];exact bel_newF _
  have hX2:Blk w2 w1.heap.size 55 #[.int .i64 ((num:Nat):Int),.slice A l.length c]:=by rw [hw2];exact Blk.new w1 _ _
  have hb12:=hb1.trans (hb2.mono hb1.size)
  have m0:=hX2.cell 0
  have m1:=hX2.cell 1
  simp only [List.getElem?_toArray,List.getElem?_cons_zero,List.getElem?_cons_succ] at m0 m1
  have HM2:=hide (HM.out.below hb12)
  have HF2:=hide (hF.below hb2)
  have Hb:=hide hb12
  have HX:=hide (And.intro m0 m1)
  have HK:=hide (HMy.out w2 HM2.out)
  clear hb1 hb2 hb12 HD HMy hF hX2
  have HSS:=hide (fun (V:World) (hb:Below w2.heap.size w2 V)=>HS.out V (HM2.out.below hb) (c:=c) (HF2.out.below hb))
  clear HS
  generalize ((num:Nat):Int)=m at hw2 m0 HK HX HSS ⊢
  go_upto_region 6 with fail
  rw [←hw2]
  clear hw2
  go_wp2_with fail
  refine HK.out.mono ?_
  rintro e w2' ⟨rfl,hb2'⟩
  have m0:=cellB hb2' HX.out.1
  have m1:=cellB hb2' HX.out.2
  have HS2:=hide (HSS.out w2' hb2')
  have Hb2':=hide (Hb.out.trans (hb2'.mono Hb.out.size))
  unfold StpR at HS2
  clear hb2' HSS HK
  go_wp2_with fail
  refine HS2.out.mono ?_
  rintro e w3 ⟨T3,S3,z3,ev,er,rfl,hev,her,hp3,hl3,hM3,hG3⟩
  have HG3:=hide (((Grown.of_below Hb2'.out).sb q.b q.b).trans hG3)
  have Hp:=hide (And.intro hp3 hl3)
  have HM3:=hide hM3
  have Hev:=hide hev
  clear hp3 hl3 hM3 hG3 hev HS2
  obtain ⟨s1,out,evv,err⟩:=r
  cases err with
  | some x =>
   obtain ⟨ps,k⟩:=x
   have HA:=hide (cfail_any HM3.out her)
   obtain ⟨te,ue,rfl⟩:=IsErr.shape her
   clear her
   simp only
   go_wp2_with fail
   refine HA.out.mono ?_
   rintro e w4 ⟨b9,rfl,hi4,hM4,hG4⟩
   have Hf:=hide (And.intro hi4 (And.intro hM4 hG4))
   clear hi4 hM4 hG4
   go_wp2_with fail
   go_ret3
   have ho:=Ho.out
   subst ho
   exact ⟨T3,S3,z3,.slice none 0 0,.slice none 0 0,errV b9,rfl,⟨fun _=>rfl,fun h9=>absurd rfl h9⟩,rfl,Hf.out.1,Hp.out.1,Hp.out.2,Hf.out.2.1,HG3.out.trans Hf.out.2.2⟩
  | none =>
   have her2:er=.nilIface:=her
   subst her2
   clear her
   simp only
   cases out with
   | nil =>
    have eo:((bs ([]:List UInt8)).toList == ([]:List UInt8))=true:=by rw [bs_toList];rfl
    go_wp2_with fail
    go_ret3
    have ho:=Ho.out
    subst ho
    exact ⟨T3,S3,z3,.slice none 0 0,ev,.nilIface,rfl,⟨fun _=>rfl,fun h9=>absurd rfl h9⟩,Hev.out,rfl,Hp.out.1,Hp.out.2,HM3.out,HG3.out⟩
   | cons a r =>
    have eo:((bs (a :: r)).toList == ([]:List UInt8))=false:=by rw [bs_toList];rfl
    generalize hz:bs (a :: r)=zz at eo ⊢
    have Hz:=hide hz
    clear hz
    go_wp2_with fail
    go_ret3
    have ho:=Ho.out
    have hz:=Hz.out
    subst ho hz
    exact ⟨T3,S3,z3,_,ev,.nilIface,rfl,⟨(fun h9=>by cases h9),fun _=>⟨_,rfl,Blk.new _ _ _⟩⟩,Hev.out.below (bel_newF _),rfl,Hp.out.1,Hp.out.2,HM3.out.below (bel_newF _),HG3.out.trans ((Grown.of_below (bel_newF _)).sb _ _)⟩
 ·have hd:=Hd.out
  rw [hd] at hk'
  cases hk'
theorem ctake_any (h:CliM q T S s z W) (pl:ByteArray) (hpl:pl.size≤3000) (hT:T.length≤690000) (ht:s.ph=2∨s.ph=3→1≤s.tried):Calls Tryz.prog 30 #[.pointer (some ⟨q.b,0,none⟩),.string pl] W (TakC q T S W (tkC q.us q.al q.ky q.sid s pl.data.toList)):=by
 by_cases h0:s.ph=0
 ·exact ctake_off h pl (.inl h0)
 ·by_cases h5:s.ph=5
  ·exact ctake_off h pl (.inr h5)
  ·cases hk:decErr (decS pl.data.toList) with
   | some x=>exact ctake_bad h pl (by omega) h0 h5 (ps:=x.1) (k:=x.2) hk
   | none =>
    obtain ⟨num,l,hd⟩:=decErr_none hk
    cases hm:mayC num s with
    | false=>exact ctake_not h pl (by omega) h0 h5 hd hm
    | true=>exact ctake_step h pl hpl hT h0 h5 ht hd hm
end
end Go.Proofs.YtnhekaepgpbijaaGreatDoor
namespace Go.Proofs.YtnhekaepgpbijaaGreatDoor
open Go.RowKit
theorem okN_princ {k:Int} (h:princL k=true):okN k=true:=by
 unfold princL at h
 unfold okN
 simp only [Bool.and_eq_true,decide_eq_true_eq] at h ⊢
 omega
theorem keyC_mem {ky:List Int} {i:Nat} (h:i<ky.length):keyC ky i∈ky∧ky[i]?=some (keyC ky i):=by
 unfold keyC
 rw [List.getElem?_eq_getElem h]
 exact ⟨List.getElem_mem h,rfl⟩
theorem sgn_facts {us:List UInt8} {ky:List Int} {sid:Option Tm} {s s':CliS} {o:OutC} (h:SgnP us ky sid s s' o) (hus:us.length≤1000) (hal:s'.alg.length≤1000) (hs:fineO sid) (hz:∀u,sid=some u→(enc u).length≤1000) (hk:∀k∈ky,princL k=true) (h1:1≤s'.tried) (h2:s'.tried≤ky.length) {ll:List Fld} (hd:decS o.out=.ok 50 ll) :
  ∃p t:Tm,ll=abtC us s'.alg (pubB (keyC ky (s'.tried - 1))) 1++[⟨116,0,sigB_ t,[]⟩]∧tPub (tKey (keyC ky (s'.tried - 1)))=some p∧ofT (pubB (keyC ky (s'.tried - 1)))=some p∧ofT (sigB_ t)=some t∧(pubB (keyC ky (s'.tried - 1))).length≤100∧(sigB_ t).length≤4600∧chkS (isPb (some p)=false) (some t=none∨some t≠userO sid (bs us) (bs connectL) (bs s'.alg) (whoO (some p)))=⟨#[]⟩:=by
 obtain ⟨hm,_⟩:=keyC_mem (ky:=ky) (i:=s'.tried - 1) (by omega)
 have hok:=okN_princ (hk _ hm)
 obtain ⟨p,hp,_,hof,hpb,hwho⟩:=pubB_ok hok
 obtain ⟨t,ht,hdt⟩:=h.dec
 rw [hd] at hdt
 cases hdt
 have hk1:t.k≠1:=by
  obtain ⟨_,r,_,rfl⟩:=user_some ht
  exact (show (6:Nat)≠1 by decide)
 have hb:=bytF_n hk1
 have hse:sigB_ t=enc t:=by unfold sigB_;rw [hb];rfl
 have hl:=user_len ht hz
 have c1:(bs us).size=us.length:=bs_size us
 have c2:(bs connectL).size=14:=by rw [bs_size];rfl
 have c3:(bs s'.alg).size=s'.alg.length:=bs_size _
 have hf:=userO_fine hs (user:=bs us) (service:=bs connectL) (alg:=bs s'.alg) (by omega) (by omega) (by omega) (keyC ky (s'.tried - 1)) t ht
 refine ⟨p,t,rfl,hp,hof,?_,pubB_100 _,by rw [hse];omega,chk_c (by rw [hpb];decide) ?_⟩
 ·rw [hse]
  exact ofT_op hf.1 hk1
 ·rw [hwho,ht]
  rintro (h9 | h9)
  ·cases h9
  ·exact h9 rfl
end Go.Proofs.YtnhekaepgpbijaaGreatDoor
