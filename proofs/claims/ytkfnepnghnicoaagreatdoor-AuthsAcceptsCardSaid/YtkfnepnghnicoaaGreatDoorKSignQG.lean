/-
  Several of my texts in one: Trans, TransL, SignQ.
-/
import Derived.Test.YtkfnepnghnicoaaGreatDoorKRdrDG
import Derived.Test.YtkfnepnghnicoaaGreatDoorKWholeAG
import Derived.Test.YtkfnepnghnicoaaGreatDoorKRdrG
import Derived.Test.YtkfnepnghnicoaaGreatDoorKSignP
set_option linter.unusedVariables false
set_option linter.unusedSimpArgs false
set_option maxHeartbeats 40000000
set_option maxRecDepth 100000
namespace Go.Proofs.YtkfnepnghnicoaaGreatDoor
open Go.RowKit Go.ChangeShapes Go.WideShapes Go.Sort
theorem DataP.from_ {B g:Nat} {w w2 w':World} {T:List Tm} {S:Nat→Prop} {os:List (Option Tm)} {e:Ending} (h:DataP B w2 g T S os e w') (hb:Below w.heap.size w w2):DataP B w g T S os e w':=by
 obtain ⟨T',S',v,h1,⟨⟨ns,h2,h2'⟩,h2''⟩,h3,h4,h5,h6⟩:=h
 exact ⟨T',S',v,h1,⟨⟨ns,own_base h2 hb.size,h2'⟩,h2''⟩,h3,h4,h5,(Grown.of_below hb).trans h6⟩
theorem DataP.nil_ {B g:Nat} {w w':World} {T:List Tm} {S:Nat→Prop} (h:Ar B w g T S) (hb:Below w.heap.size w w'):DataP B w g T S [] (.returned (.slice none 0 0)) w' :=
 ⟨T,S,_,rfl,ido_nil _ _ _ _,List.prefix_refl _,Nat.le_refl _,h.below hb,Grown.of_below hb⟩
structure PFit (p:PartsP):Prop where
 w0:p.w0<4294967296
 w1:p.w1<4294967296
 w2:p.w2<4294967296
 v0:p.v0.size≤1000000
 v1:p.v1.size≤1000000
 v2:p.v2.size≤1000000
 v3:p.v3.size≤1000000
 gp:p.gp.size≤300000
 gg:p.gg.size≤300000
section
variable {B g : Nat} {w : World} {T : List Tm} {S : Nat → Prop}
theorem DataP.open_ {os:List (Option Tm)} {e:Ending} {w':World} (h:DataP B w g T S os e w'):∃T' S' A c,e=.returned (.slice A os.length c)∧IdO w.heap.size w' T' os (.slice A os.length c) S'∧T <+: T'∧T'.length≤T.length+os.length∧Ar B w' g T' S'∧Grown S w S' w':=by
 obtain ⟨T',S',v,h1,h2,h3⟩:=h
 obtain ⟨A,c,rfl⟩:=h2.sl
 exact ⟨T',S',A,c,h1,h2,h3⟩
end
theorem Idns.app {T:List Tm} {ms ms':List (Option Tm)} {ns ns':List Int} (h:Idns T ms ns) (h':Idns T ms' ns'):Idns T (ms++ms') (ns++ns'):=by
 refine ⟨by simp [h.1,h'.1],fun i o n h1 h2=>?_⟩
 rcases Nat.lt_or_ge i ms.length with hlt | hge
 ·rw [List.getElem?_append_left hlt] at h1
  rw [List.getElem?_append_left (by rw [h.1];exact hlt)] at h2
  exact h.2 i o n h1 h2
 ·rw [List.getElem?_append_right hge] at h1
  rw [List.getElem?_append_right (by rw [h.1];exact hge),h.1] at h2
  exact h'.2 _ o n h1 h2
theorem idns_one {T:List Tm} {o:Option Tm} {n:Int} (h:Idn T o n):Idns T [o] [n]:=(idns_nil T).snoc h
theorem ido_app {B g:Nat} {w wx w':World} {T1:List Tm} {S S1:Nat→Prop} {os1 os2:List (Option Tm)} {ns ms:List Int} {v v':Value} {k:Nat}
  (ho:wx.ownsRow w.heap.size 38 1 v os1.length (ns.map (Value.int .i64))) (hi1:Idns T1 os1 ns) (hout:∀i,v.ownBlock=some i→¬ S1 i) (hi2:Idns T1 os2 ms) (hk:Kp B w g T1 S S1 wx)
  (hown:w'.ownsRow w.heap.size 38 1 v' k (ns.map (Value.int .i64)++ms.map (Value.int .i64))) (hkk:k=os1.length+os2.length) (hgr:wx.grownBy w' v.ownBlock) (hor:v'.ownBlock=v.ownBlock∨v'.ownBlock=some wx.heap.size) :
  IdO w.heap.size w' T1 (os1++os2) v' S1∧Kp B w g T1 S S1 w':=by
 subst hkk
 refine ⟨⟨⟨ns++ms,by simpa using hown,hi1.app hi2⟩,at_new hor hout hk.ar.sL⟩,hk.step hgr fun b e=>⟨(ho.lt b e).1,hout b e⟩⟩
def DoneL (B:Nat) (w:World) (g:Nat) (T:List Tm) (S:Nat→Prop) (o:Option Tm) (m:Nat) (e:Ending) (w':World):Prop :=
 ∃T' n S',e=.returned (.int .i64 n)∧Idn T' o n∧T <+: T'∧T'.length≤T.length+m∧Ar B w' g T' S'∧Grown S w S' w'
def LstI (B:Nat) (w:World) (g:Nat) (T:List Tm) (S:Nat→Prop) (os:List (Option Tm)) (m:Nat) (v:Value) (wx:World):Prop :=
 ∃T' S' A c,v=.slice A os.length c∧IdO w.heap.size wx T' os v S'∧T <+: T'∧T'.length≤T.length+m∧Kp B w g T' S S' wx
section
variable {B g : Nat} {w : World} {T : List Tm} {S : Nat → Prop}
theorem Kp.below_ {S0:Nat→Prop} {wx W:World} (h:Kp B w g T S0 S wx) (hb:Below wx.heap.size wx W):Kp B w g T S0 S W:=⟨h.ar.below hb,h.grown.trans (Grown.of_below hb)⟩
theorem lst_app {x6 wx w7:World} {T9:List Tm} {S9:Nat→Prop} {os os2:List (Option Tm)} {ns ms:List Int} {A9 A7:Option Addr} {n9 c9 c7 k m:Nat}
  (h9:IdO w.heap.size x6 T9 os (.slice A9 n9 c9) S9∧T <+: T9∧T9.length≤T.length+m∧Ar B x6 g T9 S9∧Grown S w S9 x6) (hb:Below x6.heap.size x6 wx)
  (ho:wx.ownsRow w.heap.size 38 1 (.slice A9 n9 c9) os.length (ns.map (Value.int .i64))) (hid:Idns T9 os ns) (hi2:Idns T9 os2 ms)
  (hown:w7.ownsRow w.heap.size 38 1 (.slice A7 k c7) k (ns.map (Value.int .i64)++ms.map (Value.int .i64))) (hkk:k=os.length+os2.length) (hgr:wx.grownBy w7 (Value.slice A9 n9 c9).ownBlock) (hor:(Value.slice A7 k c7).ownBlock=(Value.slice A9 n9 c9).ownBlock∨(Value.slice A7 k c7).ownBlock=some wx.heap.size) :
  LstI B w g T S (os++os2) m (.slice A7 k c7) w7:=by
 obtain ⟨h1,h2,h3,h4,h5⟩:=h9
 have hk:Kp B w g T9 S S9 wx:=Kp.below_ ⟨h4,h5⟩ hb
 obtain ⟨h6,h7⟩:=ido_app ho hid h1.out hi2 hk hown hkk hgr hor
 exact ⟨T9,S9,A7,c7,by rw [List.length_append,hkk],h6,h2,h3,h7⟩
theorem blk_at {W W':World} {b:Nat} {t:TypeId} {cs:Array Value} (hb:b=W.heap.size) (h:Below (W.heap.size+1) (W.alloc (.cells cs t)) W'):Blk W' b t cs:=by
 subst hb
 exact (Blk.new W t cs).below h (Nat.lt_succ_self _)
theorem DataP.open2 {os:List (Option Tm)} {e:Ending} {w':World} (h:DataP B w g T S os e w'):∃T' S' A c n ns,n=os.length∧e=.returned (.slice A n c)∧w'.ownsRow w.heap.size 38 1 (.slice A n c) n (ns.map (Value.int .i64))∧Idns T' os ns∧T <+: T'∧T'.length≤T.length+os.length∧Ar B w' g T' S'∧Grown S w S' w':=by
 obtain ⟨T',S',A,c,h1,h2,h3,h4,h5,h6⟩:=h.open_
 obtain ⟨ns,h7,h8⟩:=h2.ids
 exact ⟨T',S',A,c,_,ns,rfl,h1,h7,h8,h3,h4,h5,h6⟩
end
theorem blk_own {w:World} {b base n:Nat} {e:TypeId} {cs:Array Value} {xs:List Value} (h:Blk w b e cs) (hb:base≤b) (hn:cs.size=n) (hm:n≤maxLen) (hx:cs.toList=xs):w.ownsRow base e 1 (.slice (some ⟨b,0,none⟩) n n) n xs:=by
 subst hx
 refine ⟨by simpa using hn,.inr ⟨b,n,cs,rfl,hb,h,Nat.le_refl _,hm,by omega,?_⟩⟩
 rw [List.take_of_length_le (by simp;omega)]
section
variable {B g : Nat} {w : World} {T : List Tm} {S : Nat → Prop}
theorem sdata_blk (h:Use B w g T S) {W:World} (hb:Below w.heap.size w W) (ss:List ByteArray) (hz:∀s∈ss,s.size≤1000000) (hl:ss.length≤1000) (hT:T.length+ss.length≤1000000000) (b:Nat) (t:TypeId) (C:Array Value) (hC:C=(ss.map Value.string).toArray) (hB:Blk W b t C) (hbw:w.heap.size≤b) (n:Nat) (hn:n=ss.length) (os:List (Option Tm)) (ho:os=ss.map tData) :
  Calls Tryz.prog 158 #[.pointer (some ⟨g,0,none⟩),.slice (some ⟨b,0,none⟩) n n] W (DataP B W g T S os):=by
 subst hC hn ho
 have hs:Sl b W 1 (some ⟨b,0,none⟩) ss.length (ss.map Value.string):=by
  refine ⟨by simp,fun _=>⟨_,rfl,Nat.le_refl _,hB.lt,fun j u hu=>?_⟩⟩
  rw [add_zero_,hB.cell j]
  simpa using hu
 exact sdata_any (h.below hb) hs (fun i hi=>Nat.lt_of_lt_of_le (h.ar.sL i hi) hbw) hz hl hT
theorem req_app {W x6 wx w7:World} {T9:List Tm} {S9:Nat→Prop} {o:Option Tm} {os2:List (Option Tm)} {n:Int} {ms:List Int} {b k c7 m:Nat} {A7:Option Addr}
  (hb0:Below w.heap.size w W) (hG:Grown S W S9 x6) (hA:Ar B x6 g T9 S9) (hp:T <+: T9) (hl:T9.length≤T.length+m) (hb:Below x6.heap.size x6 wx) (hnb:¬ S9 b)
  (ho:wx.ownsRow w.heap.size 38 1 (.slice (some ⟨b,0,none⟩) 1 1) 1 [.int .i64 n]) (hi:Idn T9 o n) (hi2:Idns T9 os2 ms)
  (hown:w7.ownsRow w.heap.size 38 1 (.slice A7 k c7) k ([Value.int .i64 n]++ms.map (Value.int .i64))) (hkk:k=1+os2.length) (hgr:wx.grownBy w7 (Value.slice (some ⟨b,0,none⟩) 1 1).ownBlock) (hor:(Value.slice A7 k c7).ownBlock=(Value.slice (some ⟨b,0,none⟩) 1 1).ownBlock∨(Value.slice A7 k c7).ownBlock=some wx.heap.size) :
  LstI B w g T S (o :: os2) m (.slice A7 k c7) w7:=by
 have hk:Kp B w g T9 S S9 wx:=Kp.below_ ⟨hA,(Grown.of_below hb0).trans hG⟩ hb
 obtain ⟨h6,h7⟩:=ido_app (os1:=[o]) (ns:=[n]) (os2:=os2) (ms:=ms) (v':=.slice A7 k c7) ho (idns_one hi) (fun i hi=>by simp [Value.ownBlock] at hi;subst hi;exact hnb) hi2 hk hown hkk hgr hor
 exact ⟨T9,S9,A7,c7,by rw [List.length_cons,hkk,Nat.add_comm],h6,hp,hl,h7⟩
theorem request_any (h:Use B w g T S) {o p:Option Tm} {n nk:Int} {user service alg:ByteArray} (ho:Idn T o n) (hk:Idn T p nk) (hz1:user.size≤1000000) (hz2:service.size≤1000000) (hz3:alg.size≤1000000) (hT:T.length≤10000000) :
  Calls Tryz.prog 90 #[.pointer (some ⟨g,0,none⟩),.int .i64 n,.string user,.string service,.string alg,.int .i64 nk] w (DoneL B w g T S (reqO o user service alg p) 8):=by
 have hSL:=h.ar.sL
 have nS:∀i,w.heap.size≤i→¬ S i:=fun i h1 h2=>by have:=hSL i h2;omega
 have HD:=hide (fun (W:World) (hb:Below w.heap.size w W) (b:Nat) (hB:Blk W b 9 #[.string numB,.string user,.string service,.string mthB,.string sgnB,.string alg]) (hbw:w.heap.size≤b)=>sdata_blk h hb [numB,user,service,mthB,sgnB,alg] (by
   intro s hs
   simp only [List.mem_cons,List.not_mem_nil,or_false] at hs
   rcases hs with rfl | rfl | rfl | rfl | rfl | rfl
   ·decide
   ·exact hz1
   ·exact hz2
   ·decide
   ·decide
   ·exact hz3) (by simp) (by simp;omega) b 9 #[.string numB,.string user,.string service,.string mthB,.string sgnB,.string alg] rfl hB hbw 6 rfl [tData numB,tData user,tData service,tData mthB,tData sgnB,tData alg] rfl)
 have hlen6:([tData numB,tData user,tData service,tData mthB,tData sgnB,tData alg]:List (Option Tm)).length=6:=rfl
 obtain ⟨iI,hiI,hI0,hI1,hI2⟩:=info_parts infoIDr
 have Hk:=hide hk
 have Ho:=hide ho
 have HU:=hide h
 clear h ho hk
 go_enter Tryz.func90,Tryz.ntmps90
 go_upto_region 1 with fail
 go_cut [13] (fun v wx=>LstI B w g T S [o,tData numB,tData user,tData service,tData mthB,tData sgnB,tData alg] 6 v wx)
 case first =>
  have hb2:Below w.heap.size w ((w.alloc (.cells #[.int .i64 n] 38)).alloc (.cells #[.string numB,.string user,.string service,.string mthB,.string sgnB,.string alg] 9)):=((Below.refl _ _).alloc (Nat.le_refl _) _).alloc (by simp) _
  have HDD:=hide (HD.out _ hb2 (w.heap.size+1) (blk_at (W:=(w.alloc (.cells #[.int .i64 n] 38))) (by simp) (Below.refl _ _)) (by omega))
  have hB0:Blk ((w.alloc (.cells #[.int .i64 n] 38)).alloc (.cells #[.string numB,.string user,.string service,.string mthB,.string sgnB,.string alg] 9)) w.heap.size 38 #[.int .i64 n]:=(Blk.new w _ _).alloc _
  have hz2':w.heap.size<((w.alloc (.cells #[.int .i64 n] 38)).alloc (.cells #[.string numB,.string user,.string service,.string mthB,.string sgnB,.string alg] 9)).heap.size:=by simp;omega
  go_wp2_with (first
   | (go_at_call 158;go_loud (refine HDD.out.mono ?_;rintro e x6 hdp;obtain ⟨T9,S9,A9,c9,n9,ns9,hn9,rfl,ho9,hid9,hp9,hl9,hA9,hG9⟩:=hdp.open2;rw [hlen6] at hn9 hl9;subst hn9;have hb6:=hG9.outs_.blk hB0 (nS _ (Nat.le_refl _));have hw6:=blk_own (base:=w.heap.size) (n:=1) hb6 (Nat.le_refl _) rfl (show 1≤maxLen by unfold maxLen;omega) rfl))
   | (at_builtin;refine wpList_append_any _ rfl (.tmp 15) (.tmp 21) _ rfl w.heap.size 38 iI (.int .i64 0) 1 8 Tryz.underlying111 hiI hI0 hI1 hI2 rfl (by decide) (.slice (some ⟨w.heap.size,0,none⟩) 1 1) 1 [.int .i64 n] rfl hw6 _ A9 6 c9 (ns9.map (Value.int .i64)) rfl (Reads.of_own ho9) (fun u hu=>by obtain ⟨x,_,rfl⟩:=List.mem_map.1 hu;rfl) (by unfold maxLen;omega) (by omega) (by have:=hG9.size;omega) ?_;intro v7 w7 hown7 hgr7 hor7;obtain ⟨A7,c7,rfl⟩:=own_sl hown7)
   | fail)
  all_goals go_meet
  all_goals exact req_app hb2 hG9 hA9 hp9 hl9 (Below.refl _ _) (fun hh=>by rcases hG9.new _ hh with h1 | h1;exact nS _ (Nat.le_refl _) h1;omega) hw6 (Ho.out.pre hp9) hid9 hown7 rfl hgr7 hor7
 case rest =>
  obtain ⟨wx,rfl⟩:∃wx:World,wx=wc:=⟨wc,rfl⟩
  obtain ⟨T5,S5,A5,c5,hv5,h5,hpre5,hlen5,hkp5⟩:=hcut
  have hl7:([o,tData numB,tData user,tData service,tData mthB,tData sgnB,tData alg]:List (Option Tm)).length=7:=rfl
  rw [hl7] at hv5
  subst hv5
  clear HD hlen6
  have hg5:=hkp5.grown
  have hsz5:=hg5.size
  obtain ⟨ns5,ho5,hid5⟩:=h5.ids
  rw [hl7] at ho5
  have HL7:=hide hl7
  have HO5:=hide (And.intro h5 (And.intro hpre5 (And.intro hlen5 (And.intro hkp5 hid5))))
  clear h5 hpre5 hlen5 hkp5 hid5 hl7 hg5
  go_wp2_with (first
   | (at_builtin;refine wpList_append_any _ rfl (.tmp 24) (.tmp 26) _ rfl w.heap.size 38 iI (.int .i64 0) 1 8 Tryz.underlying111 hiI hI0 hI1 hI2 rfl (by decide) (.slice A5 7 c5) 7 (ns5.map (Value.int .i64)) rfl (ho5.alloc _) _ (some ⟨_,0,none⟩) 1 1 [.int .i64 nk] rfl (reads_blk (Blk.new _ _ _) rfl) (by simp [Value.oneCell']) (by unfold maxLen;omega) (by omega) (by simp;omega) ?_;intro v9 w9 hown9 hgr9 hor9;obtain ⟨A9,c9,rfl⟩:=own_sl hown9;obtain ⟨h8,hpre8,hlen8,hkp8,hid8⟩:=HO5.out;have hL9:=lst_app (m:=6) (os2:=[p]) (ms:=[nk]) ⟨h8,hpre8,hlen8,hkp8.ar,hkp8.grown⟩ (bel_new (.cells #[.int .i64 nk] 38)) (by rw [HL7.out];exact ho5.alloc _) hid8 (idns_one (Hk.out.pre hpre8)) hown9 (by rw [HL7.out];rfl) hgr9 hor9;obtain ⟨T9,S9,A9',c9',hv9,h9,hpre9,hlen9,hkp9⟩:=hL9;obtain ⟨ns9,ho9,hid9⟩:=h9.ids;have hl9:([o,tData numB,tData user,tData service,tData mthB,tData sgnB,tData alg]++[p]).length=8:=rfl;rw [hl9] at ho9;have hU9:Use B w9 g T9 S9:=HU.out.grown hkp9.grown hkp9.ar (by omega);have hn9:ns9.length=8:=hid9.1.trans hl9;have HLL:=hide (aList_any hU9 (own_ids hn9.symm ho9) (by omega));have HAR:=hide hid9.args;have HX9:=hide (And.intro h9 (And.intro hpre9 (And.intro hlen9 hkp9)));clear hid9 hU9 hn9 hl9 ho9 h9 hpre9 hlen9 hkp9 hv9 h8 hpre8 hlen8 hkp8 hid8 hgr9 hor9)
   | (go_at_call 155;refine HLL.out.mono ?_;rintro e w10 ⟨T10,n10,S10,rfl,hp10,hA10,hG10⟩)
   | fail)
  go_ret
  obtain ⟨h9,hpre9,hlen9,hkp9⟩:=HX9.out
  have hO:tList (List.map (arg T9) ns9)=reqO o user service alg p:=by rw [HAR.out];rfl
  rw [hO] at hp10
  exact ⟨T10,n10,S10,rfl,hp10.idn,hpre9.trans hp10.pre,by have:=hp10.len;omega,hA10,hkp9.grown.trans hG10⟩
theorem suser_any (h:Use B w g T S) {o:Option Tm} {n:Int} {user service alg:ByteArray} (ho:Idn T o n) (hz1:user.size≤1000000) (hz2:service.size≤1000000) (hz3:alg.size≤1000000) (who:Int) (hT:T.length≤1000000) :
  Calls Tryz.prog 51 #[.pointer (some ⟨g,0,none⟩),.int .i64 n,.string user,.string service,.string alg,.int .i64 who] w (DoneL B w g T S (userO o user service alg who) 11):=by
 have HK:=hide (aKey_any h who)
 have H:=hide h
 clear h
 go_enter Tryz.func51,Tryz.ntmps51
 go_wp2_with fail
 refine HK.out.mono ?_
 rintro e w1 ⟨T1,n1,S1,rfl,hp1,hA1,hG1⟩
 have hl1:=hp1.len
 have HU1:=hide (H.out.grown hG1 hA1 (by omega))
 have HP:=hide (aPub_any HU1.out n1)
 rw [hp1.idn.1] at HP
 have Hp:=hide hp1
 clear hA1 hp1
 go_wp2_with fail
 refine HP.out.mono ?_
 rintro e w2 ⟨T2,n2,S2,rfl,hp2,hA2,hG2⟩
 have hl2:=hp2.len
 have HU2:=hide (HU1.out.grown hG2 hA2 (by omega))
 have HR:=hide (request_any HU2.out ((ho.pre Hp.out.pre).pre hp2.pre) hp2.idn hz1 hz2 hz3 (by omega))
 have Hp2:=hide hp2
 clear hA2 hp2
 go_wp2_with fail
 refine HR.out.mono ?_
 rintro e w3 ⟨T3,n3,S3,rfl,hi3,hp3,hl3,hA3,hG3⟩
 have hU3:=HU2.out.grown hG3 hA3 (by omega)
 have HS:=hide (aSign_any hU3 (s:=alg) (by omega) n1 n3)
 rw [hi3.1,((Hp.out.idn.pre Hp2.out.pre).pre hp3).1] at HS
 have Hp3:=hide hp3
 clear hU3 hA3 hi3 hp3
 go_wp2_with fail
 refine HS.out.mono ?_
 rintro e w4 ⟨T4,n4,S4,rfl,hp4,hA4,hG4⟩
 go_wp2_with fail
 go_ret
 exact ⟨T4,n4,S4,rfl,hp4.idn,Hp.out.pre.trans (Hp2.out.pre.trans (Hp3.out.trans hp4.pre)),by have:=hp4.len;omega,hA4,hG1.trans (hG2.trans (hG3.trans hG4))⟩
end
end Go.Proofs.YtkfnepnghnicoaaGreatDoor
