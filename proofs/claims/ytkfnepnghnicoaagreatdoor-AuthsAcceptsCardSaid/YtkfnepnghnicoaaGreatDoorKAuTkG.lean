/-
  Several of my texts in one: AuX, AuL, AuLt, AuAp, AuTk, AuKy.
-/
import Derived.Test.YtkfnepnghnicoaaGreatDoorKAuBG
import Derived.Test.YtkfnepnghnicoaaGreatDoorKMsgH
import Derived.Test.YtkfnepnghnicoaaGreatDoorKAuRuG
import Derived.Test.YtkfnepnghnicoaaGreatDoorKAuJG
set_option linter.unusedVariables false
set_option linter.unusedSimpArgs false
set_option maxHeartbeats 40000000
set_option maxRecDepth 100000
namespace Go.Proofs.YtkfnepnghnicoaaGreatDoor
open Go.RowKit Go.ChangeShapes Go.WideShapes Go.Sort
theorem atF_len {l:List Fld} {m:Nat} (h:∀x∈l,x.s.length≤m) (i:Nat):(atF l i).s.length≤m:=by
 unfold atF
 cases hx:l[i]? with
 | none=>exact Nat.zero_le _
 | some x=>exact h x (List.mem_of_getElem? hx)
theorem dec_fits {p:List UInt8} {n:Nat} {l:List Fld} (h:decS p=.ok n l) (hp3:p.length≤3000):(∀x∈l,x.s.length≤3100)∧l.length≤20:=by
 obtain ⟨he,hp⟩:=enc_dec h
 unfold encS at he
 split at he
 ·rename_i hf
  obtain ⟨f1,f2⟩:=fit_get hf
  have hfl:l.length=(fit (n:Int) l.length).1.data.toList.length:=f2.symm.trans (size_len _)
  obtain ⟨e1,e2,e3,_⟩:=encGo_get hfl he
  have hpl:([UInt8.ofNat (n:Int).toNat]++putFs l).length=p.length:=by rw [e3]
  rw [List.length_append,List.length_singleton] at hpl
  refine ⟨fun x hx=>?_,?_⟩
  ·have h0:=putFs_mem hx
   obtain ⟨h1,h2,h3⟩:=putF_big (e2 x hx)
   omega
  ·have:=form_le f1
   omega
 ·cases he
theorem decErr_none {p:List UInt8} (h:decErr (decS p)=none):∃num l,decS p=.ok num l:=by
 cases p with
 | nil=>cases h
 | cons c r =>
  by_cases hl:32768<(c :: r).length
  ·rw [decS_long hl] at h
   cases h
  ·cases hf:forms c.toNat with
   | nil =>
    rw [decS_none hl hf] at h
    cases h
   | cons f fs =>
    cases hn:firstF (forms c.toNat) r with
    | some l=>exact ⟨_,l,decS_of (by omega) hn⟩
    | none =>
     rw [decS_bad hl hf hn] at h
     rw [hf] at hn
     cases hr:readFs f.data.toList r 0 with
     | ok l =>
      simp only [firstF,hr] at hn
      cases hn
     | no e i=>rw [hr] at h;cases h
     | tail=>rw [hr] at h;cases h
theorem decK {p:List UInt8} (hp:p.length≤3000):DecK p:=⟨fun _ _ h=>⟨(dec_fits h hp).2,atF_len (dec_fits h hp).1⟩,decErr_none⟩
end Go.Proofs.YtkfnepnghnicoaaGreatDoor
namespace Go.Proofs.YtkfnepnghnicoaaGreatDoor
open Go.RowKit
def annL:List UInt8:=[97,110,110]
def svcL:List UInt8:=[5,0,0,0,12,115,115,104,45,117,115,101,114,97,117,116,104]
def reqF (m:List UInt8):List Fld:=[⟨115,0,annL,[]⟩,⟨115,0,connectL,[]⟩,⟨115,0,m,[]⟩]
theorem dec_svc:decS svcL=.ok 5 [⟨115,0,userauthL,[]⟩]:=by kernel_rfl
theorem fit_50:fit 50 3=(⟨#[115,115,115]⟩,true):=by kernel_rfl
theorem okF_txt {s:List UInt8}:okF ⟨115,0,s,[]⟩:=⟨by simp [plainF,cntF],rfl⟩
theorem reqF_len (m:List UInt8):(putFs (reqF m)).length=29+m.length:=by
 have h:putFs (reqF m)=textL annL++(textL connectL++(textL m++[])):=rfl
 have hq:∀n,(q4 n).length=4:=fun _=>rfl
 rw [h]
 simp only [List.length_append,textL,hq,List.length_nil]
 show (4+3)+((4+14)+((4+m.length)+0))=_
 omega
theorem enc_req {m:List UInt8} (hm:m.length≤100):encS 50 (reqF m)=.ok ([50]++putFs (reqF m)):=by
 unfold encS
 rw [show fit 50 ((reqF m).length:Int)=(⟨#[115,115,115]⟩,true) from fit_50,if_pos rfl]
 refine encGo_ok rfl (fun x hx=>?_) ?_
 ·simp only [reqF,List.mem_cons,List.not_mem_nil,or_false] at hx
  rcases hx with rfl | rfl | rfl <;> exact okF_txt
 ·rw [List.length_append,reqF_len]
  simp
  omega
theorem dec_req {m:List UInt8} (hm:m.length≤100):decS ([50]++putFs (reqF m))=.ok 50 (reqF m) :=
 (dec_enc (fun x hx=>by
  simp only [reqF,List.mem_cons,List.not_mem_nil,or_false] at hx
  rcases hx with rfl | rfl | rfl
  ·exact ⟨by decide,fun y hy=>by cases hy⟩
  ·exact ⟨by decide,fun y hy=>by cases hy⟩
  ·exact ⟨by show m.length<_;omega,fun y hy=>by cases hy⟩) (enc_req hm)).1
def limS (lim:Int) (i:Nat):SvS:=if (i:Int)<lim then ⟨1,i⟩ else ⟨3,lim.toNat⟩
section
variable {gr : List (List UInt8 × Int)} {al : List (List UInt8)} {lim : Int} {sid : Option Tm}
theorem tak_svc:takA gr al lim sid ⟨0,0⟩ svcL=(⟨1,0⟩,⟨acceptL,none,none⟩):=by
 unfold takA
 rw [if_neg (by decide),dec_svc]
 rfl
theorem step_req (s:SvS) (hs:s.ph=1) (m:List UInt8):stepA gr al lim sid s 50 (reqF m)=refuseA lim s:=by
 unfold stepA
 rw [if_neg (by omega),if_neg (by omega),if_pos ⟨rfl,hs⟩,if_neg (by intro h;exact h rfl)]
 unfold askA
 rw [if_pos ⟨by show 3≠6;decide,by show 3≠7;decide⟩]
theorem tak_less {i:Nat} (hi:((i+1:Nat):Int)<lim) {m:List UInt8} (hm:m.length≤100):takA gr al lim sid (limS lim i) ([50]++putFs (reqF m))=(limS lim (i+1),⟨refuseL,none,none⟩):=by
 have e1:limS lim i=⟨1,i⟩:=if_pos (by omega)
 have e2:limS lim (i+1)=⟨1,i+1⟩:=if_pos hi
 unfold takA
 rw [e1,if_neg (show (1:Nat)≠3 by decide),dec_req hm]
 simp only
 rw [step_req _ rfl,refuseA,if_neg (by simp only;omega),e2]
 rfl
theorem tak_last {i:Nat} (hi:((i+1:Nat):Int)=lim) {m:List UInt8} (hm:m.length≤100):takA gr al lim sid (limS lim i) ([50]++putFs (reqF m))=(limS lim (i+1),⟨[],none,some ([authsL,limitL],12)⟩):=by
 have e1:limS lim i=⟨1,i⟩:=if_pos (by omega)
 have e2:limS lim (i+1)=⟨3,i+1⟩:=by unfold limS;rw [if_neg (by omega),← hi];rfl
 unfold takA
 rw [e1,if_neg (show (1:Nat)≠3 by decide),dec_req hm]
 simp only
 rw [step_req _ rfl,refuseA,if_pos (by simp only;omega),e2]
 rfl
theorem tak_more {i:Nat} (hi:lim<((i+1:Nat):Int)) (p:List UInt8):takA gr al lim sid (limS lim i) p=(limS lim (i+1),⟨[],none,some ([authsL],7)⟩):=by
 have e1:limS lim i=⟨3,lim.toNat⟩:=if_neg (by omega)
 have e2:limS lim (i+1)=⟨3,lim.toNat⟩:=if_neg (by omega)
 unfold takA
 rw [e1,if_pos rfl,e2]
 rfl
end
end Go.Proofs.YtkfnepnghnicoaaGreatDoor
namespace Go.Proofs.YtkfnepnghnicoaaGreatDoor
open Go.RowKit Go.ChangeShapes Go.WideShapes Go.Sort
def outL (lim:Int) (i:Nat):List UInt8:=if ((i+1:Nat):Int)<lim then refuseL else []
def errL (lim:Int) (i:Nat):Option (List (List UInt8) × Int):=if ((i+1:Nat):Int)<lim then none else if ((i+1:Nat):Int)=lim then some ([authsL,limitL],12) else some ([authsL],7)
section
variable {w0 W w : World} {B g lo hi bs_ bg : Nat} {A9 A8 : Option Addr} {c9 c8 : Nat} {gr : List (List UInt8 × Int)} {al : List (List UInt8)} {lim n : Int} {sid : Option Tm} {T : List Tm} {S : Nat → Prop} {i : Nat}
def LimP (w0:World) (B g lo hi bs_ bg:Nat) (A9:Option Addr) (c9:Nat) (gr:List (List UInt8 × Int)) (A8:Option Addr) (c8:Nat) (al:List (List UInt8)) (lim n:Int) (sid:Option Tm) (T:List Tm) (i:Nat) (e:Ending) (w':World):Prop :=
 ∃T' S' ov er,e=.returned (.tuple #[ov,.slice none 0 0,er])∧OutV w' (outL lim i) ov∧ErV w' (errL lim i) er∧T'.length≤T.length+15000∧SrvM w0 B g lo hi bs_ bg A9 c9 gr A8 c8 al lim n sid T' S' (limS lim (i+1)) w'
theorem lim_take (h:SrvM w0 B g lo hi bs_ bg A9 c9 gr A8 c8 al lim n sid T S (limS lim i) W) (h1:1≤lim) (h2:lim≤20) {m:List UInt8} (hm:m.length≤100) (hT:T.length≤700000) (hgl:gr.length≤1000) (hal:al.length≤1000) :
  Calls Tryz.prog 10 #[.pointer (some ⟨bs_,0,none⟩),.string (bs ([50]++putFs (reqF m)))] W (LimP w0 B g lo hi bs_ bg A9 c9 gr A8 c8 al lim n sid T i):=by
 have hpl:([50]++putFs (reqF m)).length≤200:=by rw [List.length_append,reqF_len];simp;omega
 have key:∀o:SvS × OutA,takA gr al lim sid (limS lim i) ([50]++putFs (reqF m))=o→o.1=limS lim (i+1)→o.2.out=outL lim i→o.2.ev=none→o.2.err=errL lim i→Calls Tryz.prog 10 #[.pointer (some ⟨bs_,0,none⟩),.string (bs ([50]++putFs (reqF m)))] W (TakR w0 B g lo hi bs_ bg A9 c9 gr A8 c8 al lim n sid T S W o)→Calls Tryz.prog 10 #[.pointer (some ⟨bs_,0,none⟩),.string (bs ([50]++putFs (reqF m)))] W (LimP w0 B g lo hi bs_ bg A9 c9 gr A8 c8 al lim n sid T i):=by
  intro o _ e1 e2 e3 e4 hc
  refine hc.mono ?_
  rintro e w' ⟨T',S',ov,ev,er,rfl,ho,hv,hr,_,hl,hM,_⟩
  rw [e1] at hM
  rw [e2] at ho
  rw [e3] at hv
  rw [e4] at hr
  have hv':ev=.slice none 0 0:=hv
  subst hv'
  exact ⟨T',S',ov,er,rfl,ho,hr,hl,hM⟩
 by_cases ha:((i:Nat):Int)<lim
 ·have hfl:((limS lim i).fl:Int)<lim∧(limS lim i).fl≤1000:=by unfold limS;rw [if_pos ha];exact ⟨ha,by show i≤1000;omega⟩
  have hc:=take_any h (bs ([50]++putFs (reqF m))) (by show ([50]++putFs (reqF m)).length≤_;omega) hT hfl.1 hfl.2 hgl hal (decK (by show ([50]++putFs (reqF m)).length≤_;omega))
  have hc':Calls Tryz.prog 10 #[.pointer (some ⟨bs_,0,none⟩),.string (bs ([50]++putFs (reqF m)))] W (TakR w0 B g lo hi bs_ bg A9 c9 gr A8 c8 al lim n sid T S W (takA gr al lim sid (limS lim i) ([50]++putFs (reqF m)))):=hc
  by_cases hb:((i+1:Nat):Int)<lim
  ·have e:=tak_less (gr:=gr) (al:=al) (sid:=sid) hb hm
   rw [e] at hc'
   exact key _ e rfl (by unfold outL;rw [if_pos hb]) rfl (by unfold errL;rw [if_pos hb]) hc'
  ·have hb2:((i+1:Nat):Int)=lim:=by omega
   have e:=tak_last (gr:=gr) (al:=al) (sid:=sid) hb2 hm
   rw [e] at hc'
   exact key _ e rfl (by unfold outL;rw [if_neg hb]) rfl (by unfold errL;rw [if_neg hb,if_pos hb2]) hc'
 ·have e:=tak_more (gr:=gr) (al:=al) (sid:=sid) (i:=i) (lim:=lim) (by omega) ([50]++putFs (reqF m))
  have hc:=take_failed h (bs ([50]++putFs (reqF m))) (by unfold limS;rw [if_neg ha])
  have hc':Calls Tryz.prog 10 #[.pointer (some ⟨bs_,0,none⟩),.string (bs ([50]++putFs (reqF m)))] W (TakR w0 B g lo hi bs_ bg A9 c9 gr A8 c8 al lim n sid T S W (takA gr al lim sid (limS lim i) ([50]++putFs (reqF m)))):=hc
  rw [e] at hc'
  exact key _ e rfl (by unfold outL;rw [if_neg (by omega)]) rfl (by unfold errL;rw [if_neg (by omega),if_neg (by omega)]) hc'
end
end Go.Proofs.YtkfnepnghnicoaaGreatDoor
namespace Go.Proofs.YtkfnepnghnicoaaGreatDoor
open Go.RowKit
def AccP (gr:List (List UInt8 × Int)) (al:List (List UInt8)) (sid:Option Tm) (l:List Fld) (x:Nat × List UInt8 × List UInt8):Prop :=
 l.length=7∧x=(whoO (ofT (atF l 5).s),(atF l 0).s,(atF l 4).s)∧(atF l 1).s=connectL∧hasG gr al (atF l 0).s (atF l 4).s (ofT (atF l 5).s)=true∧signedA sid (atF l 0).s (atF l 1).s (atF l 4).s (ofT (atF l 5).s) (ofT (atF l 6).s)
structure AccR (P:Nat × List UInt8 × List UInt8→Prop) (lim:Int) (s:SvS) (r:SvS × OutA):Prop where
 fl:r.2.err=none→(r.1.fl:Int)<lim
 fle:(r.1.fl:Int)≤lim
 ph:r.2.err=none→r.2.ev=none→(r.1.ph=2→s.ph=2)∧(r.1.ph≤1→s.ph≤1)
 ev:∀x,r.2.ev=some x→r.2.err=none∧s.ph=1∧r.1=⟨2,s.fl⟩∧P x
section
variable {P : Nat × List UInt8 × List UInt8 → Prop} {lim : Int} {s : SvS} {gr : List (List UInt8 × Int)} {al : List (List UInt8)} {sid : Option Tm} {l : List Fld}
theorem acc_fail (hf:(s.fl:Int)≤lim) (ps:List (List UInt8)) (k:Int):AccR P lim s (failA s ps k) :=
 ⟨fun h=>(by cases h),hf,fun h=>(by cases h),fun x h=>(by cases h)⟩
theorem acc_same (hf:(s.fl:Int)<lim) (out:List UInt8):AccR P lim s (s,⟨out,none,none⟩) :=
 ⟨fun _=>hf,Int.le_of_lt hf,fun _ _=>⟨id,id⟩,fun x h=>(by cases h)⟩
theorem acc_refuse (hf:(s.fl:Int)<lim):AccR P lim s (refuseA lim s):=by
 unfold refuseA
 split
 ·exact ⟨fun h=>(by cases h),(by show (((s.fl+1:Nat)):Int)≤lim;omega),fun h=>(by cases h),fun x h=>(by cases h)⟩
 ·exact ⟨fun _=>(by show (((s.fl+1:Nat)):Int)<lim;omega),(by show (((s.fl+1:Nat)):Int)≤lim;omega),fun _ _=>⟨id,id⟩,fun x h=>(by cases h)⟩
theorem acc_query (hf:(s.fl:Int)<lim):AccR P lim s (queryA s l):=by
 unfold queryA
 split
 ·exact acc_same hf _
 ·split
  ·exact acc_fail (Int.le_of_lt hf) _ _
  ·exact acc_same hf _
theorem acc_ask (hf:(s.fl:Int)<lim) (h1:s.ph=1) (hc:(atF l 1).s=connectL):AccR (AccP gr al sid l) lim s (askA gr al lim sid s l):=by
 unfold askA
 split
 ·exact acc_refuse hf
 ·rename_i hl
  split
  ·exact acc_refuse hf
  ·split
   ·exact acc_fail (Int.le_of_lt hf) _ _
   ·split
    ·exact acc_refuse hf
    ·rename_i hh
     unfold knownA
     split
     ·exact acc_query hf
     ·rename_i h6
      split
      ·rename_i hs
       refine ⟨fun _=>hf,Int.le_of_lt hf,fun _ h=>(by cases h),fun x h=>?_⟩
       cases h
       refine ⟨rfl,h1,rfl,?_,rfl,hc,(by simpa using hh),hs⟩
       rcases Decidable.not_and_iff_or_not.1 hl with h9 | h9
       ·exact absurd (Decidable.not_not.1 h9) h6
       ·exact Decidable.not_not.1 h9
      ·exact acc_refuse hf
theorem acc_step (hf:(s.fl:Int)<lim) (num:Nat):AccR (fun x=>num=50∧AccP gr al sid l x) lim s (stepA gr al lim sid s num l):=by
 unfold stepA
 split
 ·rename_i h5
  split
  ·exact ⟨fun _=>hf,Int.le_of_lt hf,fun _ _=>⟨fun h=>(by cases h),fun _=>(by rw [h5.2];exact Nat.zero_le _)⟩,fun x h=>(by cases h)⟩
  ·exact acc_fail (Int.le_of_lt hf) _ _
 ·split
  ·exact acc_same hf _
  ·split
   ·rename_i h50
    split
    ·exact acc_fail (Int.le_of_lt hf) _ _
    ·rename_i hc
     have h:=acc_ask (gr:=gr) (al:=al) (sid:=sid) hf h50.2 (Decidable.not_not.1 hc)
     exact ⟨h.fl,h.fle,h.ph,fun x hx=>let ⟨a,b,c,d⟩:=h.ev x hx;⟨a,b,c,h50.1,d⟩⟩
   ·exact acc_fail (Int.le_of_lt hf) _ _
structure AccI (lim:Int) (s:SvS) (many:Nat):Prop where
 fle:(s.fl:Int)≤lim
 fl:s.ph≠3→(s.fl:Int)<lim
 m1:many≤1
 no:s.ph≤1→many=0
theorem acc_wrap {r:SvS × OutA} (h:AccR P lim s r):((wrapA r).1.fl:Int)≤lim∧((wrapA r).1.ph≠3→((wrapA r).1.fl:Int)<lim)∧((wrapA r).2.ev=none→(((wrapA r).1.ph=2→s.ph=2)∧((wrapA r).1.ph≤1→s.ph≤1)))∧∀x,(wrapA r).2.ev=some x→s.ph=1∧(wrapA r).1=⟨2,s.fl⟩∧P x:=by
 obtain ⟨s1,out,ev,err⟩:=r
 cases err with
 | none =>
  exact ⟨h.fle,fun _=>h.fl rfl,fun h9=>h.ph rfl h9,fun x h9=>(h.ev x h9).2⟩
 | some e =>
  obtain ⟨ps,k⟩:=e
  exact ⟨h.fle,fun h9=>absurd rfl h9,fun _=>⟨fun h9=>(by cases h9),fun h9=>absurd h9 (show ¬ (3:Nat)≤1 by decide)⟩,fun x h9=>(by cases h9)⟩
theorem acc_take {many:Nat} (h:AccI lim s many) (p:List UInt8) :
  (((takA gr al lim sid s p).2.ev=none∧AccI lim (takA gr al lim sid s p).1 many∧((takA gr al lim sid s p).1.ph=2→s.ph=2)) ∨
   (∃x,(takA gr al lim sid s p).2.ev=some x∧s.ph=1∧many=0∧AccI lim (takA gr al lim sid s p).1 1∧(takA gr al lim sid s p).1=⟨2,s.fl⟩∧(s.fl:Int)<lim∧∃l,decS p=.ok 50 l∧AccP gr al sid l x)):=by
 have key:∃Q:Nat × List UInt8 × List UInt8→Prop,(∀x,Q x→∃l,decS p=.ok 50 l∧AccP gr al sid l x)∧((takA gr al lim sid s p).1.fl:Int)≤lim∧((takA gr al lim sid s p).1.ph≠3→((takA gr al lim sid s p).1.fl:Int)<lim)∧((takA gr al lim sid s p).2.ev=none→(((takA gr al lim sid s p).1.ph=2→s.ph=2)∧((takA gr al lim sid s p).1.ph≤1→s.ph≤1)))∧∀x,(takA gr al lim sid s p).2.ev=some x→s.ph=1∧(takA gr al lim sid s p).1=⟨2,s.fl⟩∧Q x:=by
  unfold takA
  split
  ·exact ⟨fun _=>False,fun _ h9=>h9.elim,acc_wrap (acc_fail h.fle _ _)⟩
  ·rename_i h3
   have hf:=h.fl h3
   cases hd:decS p with
   | ok num l =>
    exact ⟨fun x=>num=50∧AccP gr al sid l x,fun x h9=>(by obtain ⟨rfl,h8⟩:=h9;exact ⟨l,rfl,h8⟩),acc_wrap (acc_step hf num)⟩
   | all e =>
    refine ⟨fun _=>False,fun _ h9=>h9.elim,?_⟩
    simp only
    split <;> exact acc_wrap (acc_fail h.fle _ _)
   | bad num R =>
    refine ⟨fun _=>False,fun _ h9=>h9.elim,?_⟩
    simp only
    split <;> exact acc_wrap (acc_fail h.fle _ _)
 obtain ⟨Q,hQ,k1,k2,k3,k4⟩:=key
 cases he:(takA gr al lim sid s p).2.ev with
 | none=>exact .inl ⟨rfl,⟨k1,k2,h.m1,fun h9=>h.no ((k3 he).2 h9)⟩,(k3 he).1⟩
 | some x =>
  obtain ⟨h1,h2,h3⟩:=k4 x he
  exact .inr ⟨x,rfl,h1,h.no (by omega),⟨k1,k2,Nat.le_refl _,fun h9=>(by rw [h2] at h9;exact absurd h9 (show ¬ (2:Nat)≤1 by decide))⟩,h2,h.fl (by omega),hQ x h3⟩
end
end Go.Proofs.YtkfnepnghnicoaaGreatDoor
namespace Go.Proofs.YtkfnepnghnicoaaGreatDoor
open Go.RowKit Go.ChangeShapes Go.WideShapes Go.Sort
theorem takes_all {w0 W:World} {B g lo hi bs_ bg:Nat} {A9 A8:Option Addr} {c9 c8:Nat} {gr:List (List UInt8 × Int)} {al:List (List UInt8)} {lim n:Int} {sid:Option Tm} {T:List Tm} {S:Nat→Prop} {s:SvS} (h:SrvM w0 B g lo hi bs_ bg A9 c9 gr A8 c8 al lim n sid T S s W) (pl:ByteArray) (hpl:pl.size≤3000) (hT:T.length≤700000) (hf:s.ph≠3→(s.fl:Int)<lim) (hl:s.fl≤1000) (hgl:gr.length≤1000) (hal:al.length≤1000) :
  Calls Tryz.prog 10 #[.pointer (some ⟨bs_,0,none⟩),.string pl] W (TakR w0 B g lo hi bs_ bg A9 c9 gr A8 c8 al lim n sid T S W (takA gr al lim sid s pl.data.toList)):=by
 by_cases h3:s.ph=3
 ·exact take_failed h pl h3
 ·exact take_any h pl (by omega) hT (hf h3) hl hgl hal (decK (by rw [size_len];exact hpl))
def capA (i:Nat):Nat:=20000+30000*i
theorem capA_succ (i:Nat):capA (i+1)=capA i+30000:=by unfold capA;omega
theorem capA_lim {i:Nat} (h:i≤20):capA i≤620000:=by unfold capA;omega
def evZ:Array Value:=(evC 0 ⟨#[]⟩ ⟨#[]⟩ ⟨#[]⟩ 0).setIfInBounds 0 (.int .i64 0)
theorem ev_box (who:Int) (user service alg:ByteArray) (n:Int):∃ec:Array Value,evC who user service alg n=ec∧ec.toList.length=34∧ec.all (·.oneCell')=true∧ec[3]?=some (.int .i64 who)∧ec[4]?=some (.string user)∧ec[6]?=some (.string alg)∧ec[7]?=some (.int .i64 n) :=
 ⟨_,rfl,rfl,by unfold evC;simp [Value.oneCell'],rfl,rfl,rfl,rfl⟩
theorem infoEvt:(Tryz.prog.info? 66).map (·.size)=some 34:=by kernel_rfl
theorem allocEv (o:Oper) (ho:o.op=.alloc 66) (ρ:Operand→Value) (w:World):(execOp ρ o).run Tryz.prog w=.ok (.value (.pointer (some ⟨w.heap.size,0,none⟩))) (w.alloc (.cells evZ 66)):=by
 obtain ⟨d,op,t,p,af,gd⟩:=o
 simp only at ho
 subst ho
 have e:evZ=#[.int .i64 0,.int .i64 0,.int .i64 0,.int .i64 0,.string ⟨#[]⟩,.string ⟨#[]⟩,.string ⟨#[]⟩,.int .i64 0,.string ⟨#[]⟩,.string ⟨#[]⟩,.string ⟨#[]⟩,.string ⟨#[]⟩,.string ⟨#[]⟩,.string ⟨#[]⟩,.string ⟨#[]⟩,.string ⟨#[]⟩,.string ⟨#[]⟩,.string ⟨#[]⟩,.string ⟨#[]⟩,.string ⟨#[]⟩,.int .i64 0,.int .u32 0,.int .u32 0,.int .u32 0,.string ⟨#[]⟩,.string ⟨#[]⟩,.int .i64 0,.int .i64 0,.int .i64 0,.int .i64 0,.int .i64 0,.int .i64 0,.int .i64 0,.int .i64 0]:=rfl
 rw [e]
 go_simp
end Go.Proofs.YtkfnepnghnicoaaGreatDoor
namespace Go.Proofs.YtkfnepnghnicoaaGreatDoor
open Go.RowKit
theorem pub_of {o:Option Tm} (ho:fineO o) (hp:isPb o=true):o=tPub (tKey (whoO o:Nat)):=by
 cases o with
 | none=>cases hp
 | some t =>
  have hk:t.k=4:=by simpa [isPb] using hp
  have hg:=(ho t rfl).1
  obtain ⟨c,hc,hgc,hck⟩:=pub_one hg hk
  obtain ⟨k,a,b,s,l⟩:=t
  simp only [Tm.k,Tm.l] at hk hc
  subst hk hc
  obtain ⟨k2,a2,b2,s2,l2⟩:=c
  simp only [Tm.k] at hck
  subst hck
  simp only [good,hd] at hg hgc
  obtain ⟨⟨rfl,rfl,_,rfl⟩,_⟩:=hg
  obtain ⟨⟨ha,rfl,hn,rfl⟩,_⟩:=hgc
  obtain rfl:l2=[]:=List.eq_nil_of_length_eq_zero hn
  have hw:whoO (some (Tm.mk 4 0 0 ⟨#[]⟩ [Tm.mk 3 a2 0 ⟨#[]⟩ []]))=a2:=rfl
  rw [hw]
  unfold tKey
  rw [if_pos (by unfold okN;rw [Bool.and_eq_true,decide_eq_true_eq,decide_eq_true_eq];omega)]
  rfl
end Go.Proofs.YtkfnepnghnicoaaGreatDoor
