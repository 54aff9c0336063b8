/-
  Several of my texts in one: AuX, AuL, AuLt.
-/
import Derived.Test.YtihfpbaaiedfbaaGreatDoorKAuBG
import Derived.Test.YtihfpbaaiedfbaaGreatDoorKMsgH
import Derived.Test.YtihfpbaaiedfbaaGreatDoorKAuKG
set_option linter.unusedVariables false
set_option linter.unusedSimpArgs false
set_option maxHeartbeats 40000000
set_option maxRecDepth 100000
namespace Go.Proofs.YtihfpbaaiedfbaaGreatDoor
open Go.RowKit Go.ChangeShapes Go.WideShapes Go.Sort
theorem atF_len {l:List Fld} {m:Nat} (h:∀x∈l,x.s.length≤m) (i:Nat):(atF l i).s.length≤m:=by
 unfold atF
 cases hx:l[i]? with
 | none=>exact Nat.zero_le _
 | some x=>exact h x (List.mem_of_getElem? hx)
theorem dec_fits {p:List UInt8} {n:Nat} {l:List Fld} (h:decS p=.ok n l) (hp3:p.length≤3000):(∀x∈l,x.s.length≤3100)∧l.length≤20:=by
 obtain ⟨he,hp⟩:=enc_dec h
 unfold encS at he
 split at he
 ·rename_i hf
  obtain ⟨f1,f2⟩:=fit_get hf
  have hfl:l.length=(fit (n:Int) l.length).1.data.toList.length:=f2.symm.trans (size_len _)
  obtain ⟨e1,e2,e3,_⟩:=encGo_get hfl he
  have hpl:([UInt8.ofNat (n:Int).toNat]++putFs l).length=p.length:=by rw [e3]
  rw [List.length_append,List.length_singleton] at hpl
  refine ⟨fun x hx=>?_,?_⟩
  ·have h0:=putFs_mem hx
   obtain ⟨h1,h2,h3⟩:=putF_big (e2 x hx)
   omega
  ·have:=form_le f1
   omega
 ·cases he
theorem decErr_none {p:List UInt8} (h:decErr (decS p)=none):∃num l,decS p=.ok num l:=by
 cases p with
 | nil=>cases h
 | cons c r =>
  by_cases hl:32768<(c :: r).length
  ·rw [decS_long hl] at h
   cases h
  ·cases hf:forms c.toNat with
   | nil =>
    rw [decS_none hl hf] at h
    cases h
   | cons f fs =>
    cases hn:firstF (forms c.toNat) r with
    | some l=>exact ⟨_,l,decS_of (by omega) hn⟩
    | none =>
     rw [decS_bad hl hf hn] at h
     rw [hf] at hn
     cases hr:readFs f.data.toList r 0 with
     | ok l =>
      simp only [firstF,hr] at hn
      cases hn
     | no e i=>rw [hr] at h;cases h
     | tail=>rw [hr] at h;cases h
theorem decK {p:List UInt8} (hp:p.length≤3000):DecK p:=⟨fun _ _ h=>⟨(dec_fits h hp).2,atF_len (dec_fits h hp).1⟩,decErr_none⟩
end Go.Proofs.YtihfpbaaiedfbaaGreatDoor
namespace Go.Proofs.YtihfpbaaiedfbaaGreatDoor
open Go.RowKit
def annL:List UInt8:=[97,110,110]
def svcL:List UInt8:=[5,0,0,0,12,115,115,104,45,117,115,101,114,97,117,116,104]
def reqF (m:List UInt8):List Fld:=[⟨115,0,annL,[]⟩,⟨115,0,connectL,[]⟩,⟨115,0,m,[]⟩]
theorem dec_svc:decS svcL=.ok 5 [⟨115,0,userauthL,[]⟩]:=by kernel_rfl
theorem fit_50:fit 50 3=(⟨#[115,115,115]⟩,true):=by kernel_rfl
theorem okF_txt {s:List UInt8}:okF ⟨115,0,s,[]⟩:=⟨by simp [plainF,cntF],rfl⟩
theorem reqF_len (m:List UInt8):(putFs (reqF m)).length=29+m.length:=by
 have h:putFs (reqF m)=textL annL++(textL connectL++(textL m++[])):=rfl
 have hq:∀n,(q4 n).length=4:=fun _=>rfl
 rw [h]
 simp only [List.length_append,textL,hq,List.length_nil]
 show (4+3)+((4+14)+((4+m.length)+0))=_
 omega
theorem enc_req {m:List UInt8} (hm:m.length≤100):encS 50 (reqF m)=.ok ([50]++putFs (reqF m)):=by
 unfold encS
 rw [show fit 50 ((reqF m).length:Int)=(⟨#[115,115,115]⟩,true) from fit_50,if_pos rfl]
 refine encGo_ok rfl (fun x hx=>?_) ?_
 ·simp only [reqF,List.mem_cons,List.not_mem_nil,or_false] at hx
  rcases hx with rfl | rfl | rfl <;> exact okF_txt
 ·rw [List.length_append,reqF_len]
  simp
  omega
theorem dec_req {m:List UInt8} (hm:m.length≤100):decS ([50]++putFs (reqF m))=.ok 50 (reqF m) :=
 (dec_enc (fun x hx=>by
  simp only [reqF,List.mem_cons,List.not_mem_nil,or_false] at hx
  rcases hx with rfl | rfl | rfl
  ·exact ⟨by decide,fun y hy=>by cases hy⟩
  ·exact ⟨by decide,fun y hy=>by cases hy⟩
  ·exact ⟨by show m.length<_;omega,fun y hy=>by cases hy⟩) (enc_req hm)).1
def limS (lim:Int) (i:Nat):SvS:=if (i:Int)<lim then ⟨1,i⟩ else ⟨3,lim.toNat⟩
section
variable {gr : List (List UInt8 × Int)} {al : List (List UInt8)} {lim : Int} {sid : Option Tm}
theorem tak_svc:takA gr al lim sid ⟨0,0⟩ svcL=(⟨1,0⟩,⟨acceptL,none,none⟩):=by
 unfold takA
 rw [if_neg (by decide),dec_svc]
 rfl
theorem step_req (s:SvS) (hs:s.ph=1) (m:List UInt8):stepA gr al lim sid s 50 (reqF m)=refuseA lim s:=by
 unfold stepA
 rw [if_neg (by omega),if_neg (by omega),if_pos ⟨rfl,hs⟩,if_neg (by intro h;exact h rfl)]
 unfold askA
 rw [if_pos ⟨by show 3≠6;decide,by show 3≠7;decide⟩]
theorem tak_less {i:Nat} (hi:((i+1:Nat):Int)<lim) {m:List UInt8} (hm:m.length≤100):takA gr al lim sid (limS lim i) ([50]++putFs (reqF m))=(limS lim (i+1),⟨refuseL,none,none⟩):=by
 have e1:limS lim i=⟨1,i⟩:=if_pos (by omega)
 have e2:limS lim (i+1)=⟨1,i+1⟩:=if_pos hi
 unfold takA
 rw [e1,if_neg (show (1:Nat)≠3 by decide),dec_req hm]
 simp only
 rw [step_req _ rfl,refuseA,if_neg (by simp only;omega),e2]
 rfl
theorem tak_last {i:Nat} (hi:((i+1:Nat):Int)=lim) {m:List UInt8} (hm:m.length≤100):takA gr al lim sid (limS lim i) ([50]++putFs (reqF m))=(limS lim (i+1),⟨[],none,some ([authsL,limitL],12)⟩):=by
 have e1:limS lim i=⟨1,i⟩:=if_pos (by omega)
 have e2:limS lim (i+1)=⟨3,i+1⟩:=by unfold limS;rw [if_neg (by omega),← hi];rfl
 unfold takA
 rw [e1,if_neg (show (1:Nat)≠3 by decide),dec_req hm]
 simp only
 rw [step_req _ rfl,refuseA,if_pos (by simp only;omega),e2]
 rfl
theorem tak_more {i:Nat} (hi:lim<((i+1:Nat):Int)) (p:List UInt8):takA gr al lim sid (limS lim i) p=(limS lim (i+1),⟨[],none,some ([authsL],7)⟩):=by
 have e1:limS lim i=⟨3,lim.toNat⟩:=if_neg (by omega)
 have e2:limS lim (i+1)=⟨3,lim.toNat⟩:=if_neg (by omega)
 unfold takA
 rw [e1,if_pos rfl,e2]
 rfl
end
end Go.Proofs.YtihfpbaaiedfbaaGreatDoor
namespace Go.Proofs.YtihfpbaaiedfbaaGreatDoor
open Go.RowKit Go.ChangeShapes Go.WideShapes Go.Sort
theorem flds_req {W:World} {b:Nat} {m:List UInt8} (h:Blk W b 75 #[.int .u8 115,.int .i64 0,.string (bs annL),.slice none 0 0,.int .u8 115,.int .i64 0,.string (bs connectL),.slice none 0 0,.int .u8 115,.int .i64 0,.string (bs m),.slice none 0 0]):Flds W (some ⟨b,0,none⟩) (reqF m):=by
 refine ⟨fun i x hx=>?_⟩
 unfold reqF at hx
 match i with
 | 0 =>
  simp only [List.getElem?_cons_zero,Option.some.injEq] at hx
  subst hx
  refine ⟨⟨b,0,none⟩,.slice none 0 0,rfl,h.lt,?_⟩
  rw [Nat.zero_mul,add_zero_]
  exact ⟨h.cell 0,h.cell 1,h.cell 2,h.cell 3,txc_nil W 0,by decide⟩
 | 1 =>
  simp only [List.getElem?_cons_succ,List.getElem?_cons_zero,Option.some.injEq] at hx
  subst hx
  refine ⟨⟨b,0,none⟩,.slice none 0 0,rfl,h.lt,?_⟩
  rw [show (1:Nat)*4=4 from rfl,add_zero_]
  exact ⟨h.cell 4,h.cell 5,h.cell 6,h.cell 7,txc_nil W 0,by decide⟩
 | 2 =>
  simp only [List.getElem?_cons_succ,List.getElem?_cons_zero,Option.some.injEq] at hx
  subst hx
  refine ⟨⟨b,0,none⟩,.slice none 0 0,rfl,h.lt,?_⟩
  rw [show (2:Nat)*4=8 from rfl,add_zero_]
  exact ⟨h.cell 8,h.cell 9,h.cell 10,h.cell 11,txc_nil W 0,show (115:Nat)<256 by decide⟩
 | i+3=>simp at hx
def outL (lim:Int) (i:Nat):List UInt8:=if ((i+1:Nat):Int)<lim then refuseL else []
def errL (lim:Int) (i:Nat):Option (List (List UInt8) × Int):=if ((i+1:Nat):Int)<lim then none else if ((i+1:Nat):Int)=lim then some ([authsL,limitL],12) else some ([authsL],7)
section
variable {w0 W w : World} {B g lo hi bs_ bg : Nat} {A9 A8 : Option Addr} {c9 c8 : Nat} {gr : List (List UInt8 × Int)} {al : List (List UInt8)} {lim n : Int} {sid : Option Tm} {T : List Tm} {S : Nat → Prop} {i : Nat}
def LimP (w0:World) (B g lo hi bs_ bg:Nat) (A9:Option Addr) (c9:Nat) (gr:List (List UInt8 × Int)) (A8:Option Addr) (c8:Nat) (al:List (List UInt8)) (lim n:Int) (sid:Option Tm) (T:List Tm) (i:Nat) (e:Ending) (w':World):Prop :=
 ∃T' S' ov er,e=.returned (.tuple #[ov,.slice none 0 0,er])∧OutV w' (outL lim i) ov∧ErV w' (errL lim i) er∧T'.length≤T.length+15000∧SrvM w0 B g lo hi bs_ bg A9 c9 gr A8 c8 al lim n sid T' S' (limS lim (i+1)) w'
theorem lim_take (h:SrvM w0 B g lo hi bs_ bg A9 c9 gr A8 c8 al lim n sid T S (limS lim i) W) (h1:1≤lim) (h2:lim≤20) {m:List UInt8} (hm:m.length≤100) (hT:T.length≤700000) (hgl:gr.length≤1000) (hal:al.length≤1000) :
  Calls Tryz.prog 11 #[.pointer (some ⟨bs_,0,none⟩),.string (bs ([50]++putFs (reqF m)))] W (LimP w0 B g lo hi bs_ bg A9 c9 gr A8 c8 al lim n sid T i):=by
 have hpl:([50]++putFs (reqF m)).length≤200:=by rw [List.length_append,reqF_len];simp;omega
 have key:∀o:SvS × OutA,takA gr al lim sid (limS lim i) ([50]++putFs (reqF m))=o→o.1=limS lim (i+1)→o.2.out=outL lim i→o.2.ev=none→o.2.err=errL lim i→Calls Tryz.prog 11 #[.pointer (some ⟨bs_,0,none⟩),.string (bs ([50]++putFs (reqF m)))] W (TakR w0 B g lo hi bs_ bg A9 c9 gr A8 c8 al lim n sid T S W o)→Calls Tryz.prog 11 #[.pointer (some ⟨bs_,0,none⟩),.string (bs ([50]++putFs (reqF m)))] W (LimP w0 B g lo hi bs_ bg A9 c9 gr A8 c8 al lim n sid T i):=by
  intro o _ e1 e2 e3 e4 hc
  refine hc.mono ?_
  rintro e w' ⟨T',S',ov,ev,er,rfl,ho,hv,hr,_,hl,hM,_⟩
  rw [e1] at hM
  rw [e2] at ho
  rw [e3] at hv
  rw [e4] at hr
  have hv':ev=.slice none 0 0:=hv
  subst hv'
  exact ⟨T',S',ov,er,rfl,ho,hr,hl,hM⟩
 by_cases ha:((i:Nat):Int)<lim
 ·have hfl:((limS lim i).fl:Int)<lim∧(limS lim i).fl≤1000:=by unfold limS;rw [if_pos ha];exact ⟨ha,by show i≤1000;omega⟩
  have hc:=take_any h (bs ([50]++putFs (reqF m))) (by show ([50]++putFs (reqF m)).length≤_;omega) hT hfl.1 hfl.2 hgl hal (decK (by show ([50]++putFs (reqF m)).length≤_;omega))
  have hc':Calls Tryz.prog 11 #[.pointer (some ⟨bs_,0,none⟩),.string (bs ([50]++putFs (reqF m)))] W (TakR w0 B g lo hi bs_ bg A9 c9 gr A8 c8 al lim n sid T S W (takA gr al lim sid (limS lim i) ([50]++putFs (reqF m)))):=hc
  by_cases hb:((i+1:Nat):Int)<lim
  ·have e:=tak_less (gr:=gr) (al:=al) (sid:=sid) hb hm
   rw [e] at hc'
   exact key _ e rfl (by unfold outL;rw [if_pos hb]) rfl (by unfold errL;rw [if_pos hb]) hc'
  ·have hb2:((i+1:Nat):Int)=lim:=by omega
   have e:=tak_last (gr:=gr) (al:=al) (sid:=sid) hb2 hm
   rw [e] at hc'
   exact key _ e rfl (by unfold outL;rw [if_neg hb]) rfl (by unfold errL;rw [if_neg hb,if_pos hb2]) hc'
 ·have e:=tak_more (gr:=gr) (al:=al) (sid:=sid) (i:=i) (lim:=lim) (by omega) ([50]++putFs (reqF m))
  have hc:=take_failed h (bs ([50]++putFs (reqF m))) (by unfold limS;rw [if_neg ha])
  have hc':Calls Tryz.prog 11 #[.pointer (some ⟨bs_,0,none⟩),.string (bs ([50]++putFs (reqF m)))] W (TakR w0 B g lo hi bs_ bg A9 c9 gr A8 c8 al lim n sid T S W (takA gr al lim sid (limS lim i) ([50]++putFs (reqF m)))):=hc
  rw [e] at hc'
  exact key _ e rfl (by unfold outL;rw [if_neg (by omega)]) rfl (by unfold errL;rw [if_neg (by omega),if_neg (by omega)]) hc'
def capL (i:Nat):Nat:=20000+15000*i
theorem capL_succ (i:Nat):capL (i+1)=capL i+15000:=by unfold capL;omega
theorem capL_lim {i:Nat} (h:i≤20):capL i≤320000:=by unfold capL;omega
theorem limS_fl (lim:Int) (i:Nat) (h:1≤lim):(((limS lim i).fl:Nat):Int)=if (i:Int)<lim then (i:Int) else lim:=by
 unfold limS
 split
 ·rfl
 ·show ((lim.toNat:Nat):Int)=lim
  omega
theorem limS_ph (lim:Int) (i:Nat):decide ((limS lim i).ph=2)=false:=by
 unfold limS
 split <;> rfl
end
end Go.Proofs.YtihfpbaaiedfbaaGreatDoor
