/-
  Several of my texts in one: ParseE, Owner, OwnerR, SignC, Opq.
-/
import Derived.Test.YtkfnepnghnicoaaGreatDoorKParseA
import Derived.Test.YtkfnepnghnicoaaGreatDoorKRdrG
import Derived.Test.YtkfnepnghnicoaaGreatDoorKRdrDG
import Derived.Test.YtkfnepnghnicoaaGreatDoorKTwoG
import Derived.Test.YtkfnepnghnicoaaGreatDoorKSignQG
set_option linter.unusedVariables false
set_option linter.unusedSimpArgs false
set_option maxHeartbeats 40000000
set_option maxRecDepth 100000
namespace Go.Proofs.YtkfnepnghnicoaaGreatDoor
open Go.RowKit Go.ChangeShapes Go.WideShapes Go.Sort
theorem parse_end (s:ByteArray) (p:Nat) (hp:p=s.size) (hs:s.size≤131072) (w:World):Calls Tryz.prog 159 #[.string s,.int .i64 p] w (Parsed s p w):=by
 have HN:=hide (show NoT (s.data.toList.drop p) by
  rw [List.drop_eq_nil_of_le (by show s.size≤p;omega)]
  exact noT_nil)
 have hi:¬ (p:Int)<s.size:=by omega
 have hi2:(s.size:Int)≤p:=by omega
 clear hp
 go_enter Tryz.func159,Tryz.ntmps159
 go_wp2_with fail
 exact bodyPost_ret (v:=.tuple #[.agg #[.int .i64 0,.int .i64 0,.int .i64 0,.string ⟨#[]⟩,.slice none 0 0],.int .i64 p,.bool false]) (by simp [results,Tryz.results159,go_sem]) rfl (Parsed.no HN.out (by exact bel_by))
theorem parse_any (s:ByteArray) (hs:s.size≤131072):∀(m p:Nat) (w:World),s.size - p≤m→p≤s.size→Calls Tryz.prog 159 #[.string s,.int .i64 p] w (Parsed s p w):=by
 intro m
 induction m with
 | zero=>exact fun p w h1 h2=>parse_end s p (by omega) hs w
 | succ m ih =>
  intro p w h1 h2
  by_cases hp:p<s.size
  ·exact parse_step s hs m ih p hp h1 w
  ·exact parse_end s p (by omega) hs w
theorem parse_own {t:Tm} (ht:fine t) (w:World):Calls Tryz.prog 159 #[.string (bs (enc t)),.int .i64 0] w fun e w'=>Below w.heap.size w w'∧∃(A:Option Addr) (c:Nat),TxL w.heap.size w' (.slice A t.l.length c) (t.l.map enc) ∧
  e=.returned (.tuple #[.agg #[.int .i64 t.k,.int .i64 t.a,.int .i64 t.b,.string t.s,.slice A t.l.length c],.int .i64 ((enc t).length:Nat),.bool true]):=by
 refine (parse_any (bs (enc t)) (by rw [bs_size];exact ht.2) _ 0 w (Nat.le_refl _) (Nat.zero_le _)).mono ?_
 rintro e w' ⟨hb,h⟩
 refine ⟨hb,?_⟩
 rw [List.drop_zero,bs_data] at h
 rcases h with ⟨hn,_⟩ | ⟨u,q,A,n,c,hg,_,hq,he,hT,rfl⟩
 ·exact absurd (by simp) (hn t [] ht.1)
 ·obtain ⟨rfl,hd⟩:=enc_inj t u [] _ ht.1 hg (by rw [List.append_nil];exact he)
  have hq2:q=(enc t).length:=by
   have h9:=congrArg List.length hd
   rw [List.length_drop] at h9
   rw [bs_size] at hq
   simp only [List.length_nil] at h9
   omega
  subst hq2
  obtain ⟨A',c',e',hc⟩:=hT.txs.open_
  injection e' with e1 e2 e3
  subst e1 e2
  rw [List.length_map] at hT ⊢
  exact ⟨A,c,hT,rfl⟩
def isPb (o:Option Tm):Bool:=match o with
 | some t=>t.k == 4
 | none=>false
def whoO (o:Option Tm):Nat:=match o with
 | some t=>if t.k=4 then (match t.l with
  | c :: _=>c.a
  | []=>0) else 0
 | none=>0
theorem pub_one {t:Tm} (h:good t) (hk:t.k=4):∃c,t.l=[c]∧good c∧c.k=3:=by
 cases t with
 | mk k a b s l =>
  simp only [Tm.k] at hk
  subst hk
  simp only [good] at h
  obtain ⟨h1,h2,h3⟩:=h
  have hl:l.length=1:=by
   simp only [hd] at h1
   omega
  match l,hl with
  | [c],_ =>
   refine ⟨c,rfl,(goods_iff _).1 h3 c (by simp),?_⟩
   simpa [kids] using h2
section
variable {B g : Nat} {w : World} {T : List Tm} {S : Nat → Prop}
theorem owner_any (h:Ar B w g T S) {o:Option Tm} {n:Int} (hn:Idn T o n):Calls Tryz.prog 49 #[.pointer (some ⟨g,0,none⟩),.int .i64 n] w (fun e w'=>e=.returned (.tuple #[.int .i64 (whoO o),.bool (isPb o)])∧Below w.heap.size w w'):=by
 have HV:=hide (aview_any h n)
 have H:=hide h
 cases o with
 | none =>
  go_enter Tryz.func49,Tryz.ntmps49
  go_wp2_with fail
  refine HV.out.mono ?_
  intro e w1 hv
  obtain ⟨rfl,hb⟩:=view_none hn.1 hv
  clear hv
  go_wp2_with fail
  go_ret2
  exact ⟨rfl,hb.alloc hb.size _⟩
 | some t =>
  have hgt:=(h.ok.fine t (arg_mem hn.1)).1
  by_cases hk:t.k=4
  ·obtain ⟨c,hc,hgc,_⟩:=pub_one hgt hk
   have hlen:t.l.length=1:=by rw [hc];rfl
   have e1:whoO (some t)=c.a:=by
    show (if t.k=4 then _ else _)=_
    rw [if_pos hk,hc]
   have e2:isPb (some t)=true:=by
    show (t.k == 4)=true
    rw [hk]
    rfl
   rw [e1,e2]
   have Hn:=hide hn
   have Hc:=hide hc
   have Hl:=hide hlen
   have Hk:=hide hk
   clear h hn hc e1 e2 hgt hgc hlen hk
   go_enter Tryz.func49,Tryz.ntmps49
   go_wp2_with fail
   refine HV.out.mono ?_
   intro e w1 hv
   obtain ⟨js,A,cc,ha,rfl,hown,hb⟩:=view_some Hn.out.1 hv
   clear hv
   have hjl:=ha.len
   rw [Hl.out] at hjl hown ⊢
   obtain ⟨gv,cap,hv2,_,hlt⟩:=hown.form (by omega)
   obtain rfl:A=some ⟨gv,0,none⟩:=by injection hv2
   obtain ⟨c1,hc1,hT⟩:=ha.at_ (p:=0) (by omega)
   rw [Hc.out] at hc1
   obtain rfl:c=c1:=by simpa using hc1
   have hcell:=hown.cells (g:=gv) rfl 0 (.int .i64 (js[0]'(by omega):Nat)) (by rw [List.getElem?_map,List.getElem?_map,List.getElem?_eq_getElem (by omega)];rfl)
   rw [add_zero_] at hcell
   have harg:arg T (js[0]'(by omega):Nat)=some c:=by rw [arg_at];exact hT
   have hkk:=Hk.out
   rw [hkk] at *
   have hb2:=hb.alloc hb.size (.cells #[.int .i64 (4:Nat),.int .i64 t.a,.int .i64 t.b,.string t.s,.slice (some ⟨gv,0,none⟩) 1 cc] 113)
   have HV2:=hide (aview_any (H.out.below hb2) (js[0]'(by omega):Nat))
   have Harg:=hide harg
   generalize ((js[0]'(by omega):Nat):Int)=m at hcell HV2 Harg
   clear ha hown hv2 hT hc1 hjl harg
   go_wp2_with fail
   refine HV2.out.mono ?_
   intro e w2 hv
   obtain ⟨js2,A2,cc2,_,rfl,_,hb3⟩:=view_some Harg.out hv
   clear hv
   have hb4:=hb2.trans (hb3.mono hb2.size)
   go_wp2_with fail
   go_ret2
   exact ⟨rfl,hb4.alloc hb4.size _⟩
  ·have e1:whoO (some t)=0:=by
    show (if t.k=4 then _ else _)=_
    rw [if_neg hk]
   have e2:isPb (some t)=false:=by
    show (t.k == 4)=false
    simpa using hk
   rw [e1,e2]
   have hki:((t.k:Int) == 4)=false:=by simp only [beq_eq_false_iff_ne,ne_eq];omega
   have Hn:=hide hn
   clear h hn e1 e2 hgt hk
   go_enter Tryz.func49,Tryz.ntmps49
   go_wp2_with fail
   refine HV.out.mono ?_
   intro e w1 hv
   obtain ⟨js,A,cc,ha,rfl,hown,hb⟩:=view_some Hn.out.1 hv
   clear hv
   go_wp2_with fail
   go_ret2
   exact ⟨rfl,hb.alloc hb.size _⟩
end
section
variable {w : World}
theorem rView_own {t:Tm} (ht:fine t) (w:World):Calls Tryz.prog 92 #[.string (bs (enc t))] w (fun e w'=>∃A n c,e=.returned (.agg #[.int .i64 t.k,.int .i64 t.a,.int .i64 t.b,.string t.s,.slice A n c])∧Below w.heap.size w w'):=by
 have HP:=hide (fun W=>parse_own ht W)
 generalize bs (enc t)=x at HP ⊢
 go_enter Tryz.func92,Tryz.ntmps92
 go_wp2_with fail
 have hb0:=(Below.refl w.heap.size w).alloc (Nat.le_refl _) (.cells #[.int .i64 0,.int .i64 0,.int .i64 0,.string ⟨#[]⟩,.slice none 0 0] 178)
 have hB0:=Blk.new w 178 #[.int .i64 0,.int .i64 0,.int .i64 0,.string ⟨#[]⟩,.slice none 0 0]
 refine (HP.out _).mono ?_
 rintro e w1 ⟨hb1,A,c,_,rfl⟩
 have hB1:=hB0.below hb1 hB0.lt
 have hb01:=hb0.trans (hb1.mono hb0.size)
 have hlt:=hB1.lt
 have k0:=hB1.cell 0
 have k1:=hB1.cell 1
 have k2:=hB1.cell 2
 have k3:=hB1.cell 3
 have k4:=hB1.cell 4
 simp only [List.getElem?_toArray,List.getElem?_cons_zero,List.getElem?_cons_succ] at k0 k1 k2 k3 k4
 have f0:=hB1.frozen 0
 have f1:=hB1.frozen 1
 have f2:=hB1.frozen 2
 have f3:=hB1.frozen 3
 have f4:=hB1.frozen 4
 have hn:=Nat.ne_of_lt hlt
 clear HP hB0 hb0 hb1
 go_wp2_with fail
 obtain ⟨W,hW⟩:∃W,W=(((((w1.setCell ⟨w.heap.size,0,none⟩ (.int .i64 t.k)).setCell ⟨w.heap.size,1,none⟩ (.int .i64 t.a)).setCell ⟨w.heap.size,2,none⟩ (.int .i64 t.b)).setCell ⟨w.heap.size,3,none⟩ (.string t.s)).setCell ⟨w.heap.size,4,none⟩ (.slice A t.l.length c)).alloc (.cells #[.int .i64 t.k,.int .i64 t.a,.int .i64 t.b,.string t.s,.slice A t.l.length c] 178):=⟨_,rfl⟩
 rw [←hW]
 have hBW:Blk W w.heap.size 178 #[.int .i64 t.k,.int .i64 t.a,.int .i64 t.b,.string t.s,.slice A t.l.length c]:=by
  rw [hW]
  have:=(((((hB1.set_ 0 (.int .i64 t.k)).set_ 1 (.int .i64 t.a)).set_ 2 (.int .i64 t.b)).set_ 3 (.string t.s)).set_ 4 (.slice A t.l.length c)).alloc (.cells #[.int .i64 t.k,.int .i64 t.a,.int .i64 t.b,.string t.s,.slice A t.l.length c] 178)
  simpa using this
 have hbW:Below w.heap.size w W:=by
  rw [hW]
  have hs:=(((((hb01.setCell (p:=⟨w.heap.size,0,none⟩) (Nat.le_refl _) (.int .i64 t.k)).setCell (p:=⟨w.heap.size,1,none⟩) (Nat.le_refl _) (.int .i64 t.a)).setCell (p:=⟨w.heap.size,2,none⟩) (Nat.le_refl _) (.int .i64 t.b)).setCell (p:=⟨w.heap.size,3,none⟩) (Nat.le_refl _) (.string t.s)).setCell (p:=⟨w.heap.size,4,none⟩) (Nat.le_refl _) (.slice A t.l.length c))
  exact hs.alloc hs.size _
 have q0:=hBW.cell 0
 have q1:=hBW.cell 1
 have q2:=hBW.cell 2
 have q3:=hBW.cell 3
 have q4:=hBW.cell 4
 simp only [List.getElem?_toArray,List.getElem?_cons_zero,List.getElem?_cons_succ] at q0 q1 q2 q3 q4
 clear hW hBW hB1 k0 k1 k2 k3 k4 f0 f1 f2 f3 f4
 exact bodyPost_ret (v:=.agg #[.int .i64 t.k,.int .i64 t.a,.int .i64 t.b,.string t.s,.slice A t.l.length c]) (by simp [results,Tryz.results92,go_sem,q0,q1,q2,q3,q4]) rfl ⟨A,_,c,rfl,hbW⟩
theorem field_a (x0 x1 x2:Int) (x3:ByteArray) (A:Option Addr) (n c:Nat) (w:World):(Instr.field 178 (.agg #[.int .i64 x0,.int .i64 x1,.int .i64 x2,.string x3,.slice A n c]) 1).run Tryz.prog w=.ok (.int .i64 x1) w:=by kernel_rfl
theorem rOwner_any {o:Option Tm} (ho:fineO o) (w:World):Calls Tryz.prog 52 #[.string (tx o)] w (fun e w'=>e=.returned (.tuple #[.int .i64 (whoO o),.bool (isPb o)])∧Below w.heap.size w w'):=by
 have HK:=hide (rKind_any ho w)
 by_cases hp:∃t,o=some t∧t.k=4
 ·obtain ⟨t,rfl,hk⟩:=hp
  have hft:=ho t rfl
  obtain ⟨c,hc,hgc,_⟩:=pub_one hft.1 hk
  have e1:whoO (some t)=c.a:=by
   show (if t.k=4 then _ else _)=_
   rw [if_pos hk,hc]
  have e2:isPb (some t)=true:=by
   show (t.k == 4)=true
   rw [hk]
   rfl
  rw [e1,e2]
  have heq:enc t=244 :: enc c:=by
   rw [enc_eta,hc,hk]
   have hs:t.s=eB∧t.a=0∧t.b=0:=by
    have:=hft.1
    cases t with
    | mk k a b s l =>
     simp only [Tm.k] at hk
     subst hk
     simp only [good,hd] at this
     exact ⟨this.1.2.2.2,this.1.1,this.1.2.1⟩
   rw [hs.1,hs.2.1,hs.2.2]
   simp [head,mid,encs]
  have hfc:fine c:=⟨hgc,by have:=hft.2;rw [heq] at this;simp at this;omega⟩
  have hx:(tx (some t)).extract 1 (tx (some t)).size=bs (enc c):=by
   show (bs (enc t)).extract 1 (bs (enc t)).size=_
   rw [ext_bs,bs_data,heq,List.drop_succ_cons,List.drop_zero,List.take_of_length_le]
   have h9:(bs (244 :: enc c)).size=(enc c).length+1:=rfl
   rw [h9]
   omega
  have hsz:(1:Int)≤(tx (some t)).size:=by
   show (1:Int)≤(enc t).length
   rw [heq]
   simp
   omega
  have hsz2:(tx (some t)).size≤131072:=hft.2
  have HV:=hide (fun W=>rView_own hfc W)
  rw [←hx] at HV
  have hk4:kindO (some t)=4:=hk
  rw [hk4] at HK
  clear hx e1 e2 heq hfc hft hk4 ho hc hgc hk
  generalize tx (some t)=x at HK HV hsz hsz2 ⊢
  go_enter Tryz.func52,Tryz.ntmps52
  go_wp2_with fail
  refine HK.out.mono ?_
  rintro e w1 ⟨rfl,rfl⟩
  go_wp2_with fail
  refine (HV.out _).mono ?_
  rintro e w2 ⟨A,n,c2,rfl,hb⟩
  have hfa:=field_a
  go_wp2_with fail
  go_ret2
  exact ⟨rfl,hb⟩
 ·have e1:whoO o=0:=by
   cases o with
   | none=>rfl
   | some t =>
    show (if t.k=4 then _ else _)=_
    rw [if_neg (fun h=>hp ⟨t,rfl,h⟩)]
  have e2:isPb o=false:=by
   cases o with
   | none=>rfl
   | some t =>
    show (t.k == 4)=false
    simpa using (fun h=>hp ⟨t,rfl,h⟩)
  have hkk:((kindO o:Nat):Int)=4→False:=fun h=>by
   cases o with
   | none=>simp [kindO] at h
   | some t=>exact hp ⟨t,rfl,by simp [kindO] at h;omega⟩
  have hkb:(((kindO o:Nat):Int) == 4)=false:=by rw [beq_eq_false_iff_ne];exact hkk
  rw [e1,e2]
  clear e1 e2 hp ho hkk
  go_enter Tryz.func52,Tryz.ntmps52
  go_wp2_with fail
  refine HK.out.mono ?_
  rintro e w1 ⟨rfl,rfl⟩
  go_wp2_with fail
  go_ret2
  exact ⟨rfl,Below.refl _ _⟩
end
def usrB:ByteArray:=⟨#[117,115,101,114]⟩
noncomputable def chkS (a b:Prop):ByteArray:=@ite _ a (Classical.propDecidable a) keyB (@ite _ b (Classical.propDecidable b) sigB ⟨#[]⟩)
theorem chk_a {a b:Prop} (h:a):chkS a b=keyB:=by unfold chkS;rw [if_pos h]
theorem chk_b {a b:Prop} (h:¬ a) (h2:b):chkS a b=sigB:=by unfold chkS;rw [if_neg h,if_pos h2]
theorem chk_c {a b:Prop} (h:¬ a) (h2:¬ b):chkS a b=⟨#[]⟩:=by unfold chkS;rw [if_neg h,if_neg h2]
theorem or_flip (p q:Option Tm):(p=none∨p≠q)↔(q=none∨q≠p):=by
 constructor
 ·rintro (h | h)
  ·by_cases hq:q=none
   ·exact .inl hq
   ·exact .inr (by rw [h];exact hq)
  ·exact .inr (fun e=>h e.symm)
 ·rintro (h | h)
  ·by_cases hq:p=none
   ·exact .inl hq
   ·exact .inr (by rw [h];exact hq)
  ·exact .inr (fun e=>h e.symm)
def ErrIs (S:Nat→Prop) (W:World) (s1:ByteArray) (k:Int) (s2:ByteArray) (v:Value):Prop :=
 (s2=⟨#[]⟩∧v=.nilIface)∨(s2.size≤1000∧(s2.toList == [])=false∧∃b1 b2,v=.iface 135 (.pointer (some ⟨b1,0,none⟩))∧Flt W b1 b2 s1 s2 k∧¬ S b1∧¬ S b2)
theorem ErrIs.below {S:Nat→Prop} {W W':World} {s1 s2:ByteArray} {k:Int} {v:Value} (h:ErrIs S W s1 k s2 v) (hb:Below W.heap.size W W'):ErrIs S W' s1 k s2 v:=by
 rcases h with h | ⟨h1,h2,b1,b2,h3,h4,h5⟩
 ·exact .inl h
 ·exact .inr ⟨h1,h2,b1,b2,h3,h4.below hb,h5⟩
def ChkE (B:Nat) (w:World) (g:Nat) (T:List Tm) (S:Nat→Prop) (s1:ByteArray) (k:Int) (s2:ByteArray) (m:Nat) (e:Ending) (w':World):Prop :=
 ∃T' S' v,e=.returned v∧T <+: T'∧T'.length≤T.length+m∧Ar B w' g T' S'∧Grown S w S' w'∧ErrIs S' w' s1 k s2 v
theorem keyB_ok:keyB.size≤1000∧(keyB.toList == [])=false:=⟨by decide,by decide +kernel⟩
theorem sigB_ok:sigB.size≤1000∧(sigB.toList == [])=false:=⟨by decide,by decide +kernel⟩
section
variable {B g : Nat} {w w1 w2 : World} {T T1 : List Tm} {S S1 : Nat → Prop}
theorem chkE_wrong {s1 s2:ByteArray} {k:Int} {m:Nat} {e:Ending} (hA:Ar B w1 g T1 S1) (hG:Grown S w S1 w1) (hp:T <+: T1) (hl:T1.length≤T.length+m) (h2:s2.size≤1000∧(s2.toList == [])=false)
  (hw:∃b1 b2,e=.returned (.iface 135 (.pointer (some ⟨b1,0,none⟩)))∧Flt w2 b1 b2 s1 s2 k∧Below w1.heap.size w1 w2∧w1.heap.size≤b1∧w1.heap.size≤b2):ChkE B w g T S s1 k s2 m e w2:=by
 obtain ⟨b1,b2,rfl,hF,hb,l1,l2⟩:=hw
 exact ⟨T1,S1,_,rfl,hp,hl,hA.below hb,hG.trans (Grown.of_below hb),.inr ⟨h2.1,h2.2,b1,b2,rfl,hF,fun h9=>by have:=hA.sL _ h9;omega,fun h9=>by have:=hA.sL _ h9;omega⟩⟩
theorem checkUser_any (h:Use B w g T S) {os okey osig:Option Tm} {n nk ns:Int} {user service alg:ByteArray} (ho:Idn T os n) (hk:Idn T okey nk) (hs:Idn T osig ns) (hz1:user.size≤1000000) (hz2:service.size≤1000000) (hz3:alg.size≤1000000) (hT:T.length≤1000000) :
  Calls Tryz.prog 19 #[.pointer (some ⟨g,0,none⟩),.int .i64 n,.string user,.string service,.string alg,.int .i64 nk,.int .i64 ns] w
   (ChkE B w g T S usrB 12 (chkS (isPb okey=false) (osig=none∨osig≠userO os user service alg (whoO okey))) 11):=by
 have HO:=hide (owner_any h.ar hk)
 have H:=hide h
 have Hs:=hide hs
 have Ho:=hide ho
 clear h hs ho hk
 cases hb:isPb okey with
 | false =>
  rw [hb] at HO
  generalize ((whoO okey:Nat):Int)=who at HO ⊢
  rw [chk_a rfl]
  clear hb
  go_enter Tryz.func19,Tryz.ntmps19
  go_wp2_with fail
  refine HO.out.mono ?_
  rintro e w1 ⟨rfl,hb1⟩
  go_wp2_with fail
  refine (wrong_any usrB keyB 12 (by decide) w1).mono ?_
  intro e w2 hw
  have hF:=hide (chkE_wrong (T:=T) (m:=11) (H.out.below hb1).ar (Grown.of_below hb1) (List.prefix_refl _) (by omega) keyB_ok hw)
  obtain ⟨b1,b2,rfl,_⟩:=hw
  go_wp2_with fail
  go_ret
  exact hF.out
 | true =>
  rw [hb] at HO
  generalize ((whoO okey:Nat):Int)=who at HO ⊢
  clear hb
  have h0:¬ (true=false):=by decide
  obtain ⟨want,hwant⟩:∃want,want=userO os user service alg who:=⟨_,rfl⟩
  obtain ⟨s2,hs2⟩:∃s2,s2=chkS (true=false) (osig=none∨osig≠want):=⟨_,rfl⟩
  rw [←hwant,← hs2]
  have J1:=hide (fun h=>hs2.trans (chk_b h0 h))
  have J2:=hide (fun h=>hs2.trans (chk_c h0 h))
  have HW:=hide hwant
  clear h0 hs2 hwant
  go_enter Tryz.func19,Tryz.ntmps19
  go_wp2_with fail
  refine HO.out.mono ?_
  rintro e w1 ⟨rfl,hb1⟩
  have HU:=hide (suser_any (H.out.below hb1) Ho.out hz1 hz2 hz3 who hT)
  go_wp2_with fail
  refine HU.out.mono ?_
  rintro e w3 ⟨T3,n3,S3,rfl,hid3,hpre3,hl3,hA3,hG3⟩
  rw [←HW.out] at hid3
  have e3:n3=-1↔want=none:=hid3.none_iff
  have e4:n3=ns↔want=osig:=hid3.eq_iff hA3.ok (Hs.out.pre hpre3)
  have HA3:=hide hA3
  have HG3:=hide ((Grown.of_below hb1).trans hG3)
  clear hid3 hA3 hG3 HU
  by_cases c3:n3=-1
  ·have HE:=hide (J1.out ((or_flip _ _).1 (.inl (e3.1 c3))))
   subst c3
   clear e3 e4
   go_wp2_with fail
   refine (wrong_any usrB sigB 12 (by decide) w3).mono ?_
   intro e w4 hw
   have hF:=hide (chkE_wrong (T:=T) (m:=11) HA3.out HG3.out hpre3 hl3 sigB_ok hw)
   obtain ⟨b1,b2,rfl,_⟩:=hw
   go_wp2_with fail
   go_ret
   rw [HE.out]
   exact hF.out
  ·by_cases c4:n3=ns
   ·have hc:¬ (osig=none∨osig≠want):=fun h9=>by
     rcases (or_flip _ _).1 h9 with h8 | h8
     ·exact c3 (e3.2 h8)
     ·exact h8 (e4.1 c4)
    have HE:=hide (J2.out hc)
    subst c4
    clear e3 e4 hc
    go_wp2_with fail
    go_ret
    rw [HE.out]
    exact ⟨T3,S3,_,rfl,hpre3,hl3,HA3.out,HG3.out,.inl ⟨rfl,rfl⟩⟩
   ·have HE:=hide (J1.out ((or_flip _ _).1 (.inr (fun h9=>c4 (e4.2 h9)))))
    clear e3 e4
    go_wp2_with fail
    refine (wrong_any usrB sigB 12 (by decide) w3).mono ?_
    intro e w4 hw
    have hF:=hide (chkE_wrong (T:=T) (m:=11) HA3.out HG3.out hpre3 hl3 sigB_ok hw)
    obtain ⟨b1,b2,rfl,_⟩:=hw
    go_wp2_with fail
    go_ret
    rw [HE.out]
    exact hF.out
end
structure RowB (W0 wr:World) (os:List (Option Tm)) (v:Value) (b:Nat) (t:TypeId) (cs:Array Value):Prop where
 bel:Below W0.heap.size W0 wr
 own:wr.ownsRow W0.heap.size 9 1 v os.length (((os.map txt).map bs).map Value.string)
 blk:Blk wr b t cs
 ne:v.ownBlock≠some b
section
variable {W0 wr wz : World} {os : List (Option Tm)} {v : Value} {b : Nat} {t : TypeId} {cs : Array Value}
theorem RowB.below (h:RowB W0 wr os v b t cs) (hb:Below wr.heap.size wr wz):RowB W0 wz os v b t cs :=
 ⟨h.bel.trans (hb.mono h.bel.size),h.own.kept (only_of_below hb none) (by cases v.ownBlock <;> simp),h.blk.below hb h.blk.lt,h.ne⟩
theorem RowB.txs (h:RowB W0 wr os v b t cs):Txs wr v (os.map txt):=own_txs h.own (by simp)
end
theorem head_at {s:ByteArray} {t:Tm} (ht:good t) (he:s.data.toList=enc t):0<s.size∧∀h:0<s.size,s[0].toNat=240+t.k:=by
 obtain ⟨r,hr⟩:=enc_head t ht
 have hk:=good_k ht
 have hl:=size_len s
 rw [he,hr] at hl
 have hp:0<s.size:=by
  rw [←hl]
  simp
 refine ⟨hp,fun h=>?_⟩
 have h0:s.data.toList=s[0] :: s.data.toList.drop 1:=by
  have:=drop_cons (s:=s.data.toList) (p:=0) h
  rw [List.drop_zero] at this
  exact this
 rw [he,hr] at h0
 injection h0 with h1 _
 rw [←h1,UInt8.toNat_ofNat']
 omega
section
variable {w : World}
theorem opq_any (hT:Tab w) (x:ByteArray) (hs:x.size≤131072):Calls Tryz.prog 47 #[.string x] w (fun e w'=>∃r,e=.returned (.bool r)∧(r=true↔∃t,good t∧x.data.toList=enc t∧t.k≠1)∧Below w.heap.size w w'):=by
 have HN:=hide (new_any w)
 have HT:=hide hT
 have Hx:=hide (fun (W:World) (B g:Nat) (S:Nat→Prop) (hU:Use B W g [] S)=>decode_any hU hs (by simp))
 clear hT
 by_cases h0:x.size=0
 ·have hxn:x.data.toList=[]:=List.eq_nil_of_length_eq_zero (by rw [size_len];exact h0)
  have hx1:(x.toList == [])=true:=by rw [ByteArray.toList_eq,hxn];rfl
  have Hxn:=hide hxn
  clear hxn h0
  go_enter Tryz.func47,Tryz.ntmps47
  go_wp2_with fail
  go_ret
  refine ⟨false,rfl,?_,Below.refl _ _⟩
  simp only [Bool.false_eq_true,false_iff]
  rintro ⟨t,ht,he,_⟩
  exact enc_ne t (he.symm.trans Hxn.out)
 ·have hi:(0:Int)<x.size:=by omega
  have hx1:(x.toList == [])=false:=by
   rw [beq_eq_false_iff_ne,ByteArray.toList_eq]
   intro e
   have:=size_len x
   rw [e] at this
   simp at this
   omega
  have Hh:=hide (fun t ht he=>(head_at (s:=x) (t:=t) ht he).2 (by omega))
  clear h0
  have hxp:0<x.size:=by omega
  by_cases hq':(((x[0]'hxp).toNat:Nat):Int)=241
  ·have hqb:((((x[0]'hxp).toNat:Nat):Int) == 241)=true:=by rw [beq_iff_eq];exact hq'
   have Hq:=hide hq'
   clear hq'
   go_enter Tryz.func47,Tryz.ntmps47
   go_wp2_with fail
   have hq':=Hq.out
   go_ret
   refine ⟨false,rfl,?_,Below.refl _ _⟩
   simp only [Bool.false_eq_true,false_iff]
   rintro ⟨t,ht,he,hk⟩
   have:=Hh.out t ht he
   omega
  ·have hqb:((((x[0]'hxp).toNat:Nat):Int) == 241)=false:=by rw [beq_eq_false_iff_ne];exact hq'
   have Hq:=hide hq'
   clear hq'
   go_enter Tryz.func47,Tryz.ntmps47
   go_wp2_with fail
   have hq':=Hq.out
   refine HN.out.mono ?_
   rintro e w1 ⟨g,S,rfl,hA,hb1⟩
   have hU:Use w.heap.size w1 g [] S:=use_new2 HT.out (Below.refl _ _) hA hb1
   have hD:=hide (Hx.out w1 w.heap.size g S hU)
   clear hU hA
   go_wp2_with fail
   refine hD.out.mono ?_
   rintro e w2 ⟨T',S',n,k,o,rfl,hid,ho,hA2,hG2,_,_⟩
   have hsB:=hA2.sB
   have hb2:=hG2.below hb1.size (fun i hi=>hsB i (hG2.sub i hi))
   rcases ho with ⟨t,rfl,ht,he,rfl⟩ | ⟨rfl,rfl,hno⟩
   ·go_wp2_with fail
    go_ret
    refine ⟨true,rfl,?_,hb1.trans hb2⟩
    simp only [true_iff]
    refine ⟨t,ht,he,fun hk=>?_⟩
    have:=Hh.out t ht he
    omega
   ·go_wp2_with fail
    go_ret
    refine ⟨false,rfl,?_,hb1.trans hb2⟩
    simp only [Bool.false_eq_true,false_iff]
    rintro ⟨t,ht,he,_⟩
    exact hno t ht he
end
end Go.Proofs.YtkfnepnghnicoaaGreatDoor
