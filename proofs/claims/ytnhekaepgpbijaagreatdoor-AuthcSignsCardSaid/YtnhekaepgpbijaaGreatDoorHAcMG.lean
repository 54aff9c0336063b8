/- Several of my texts in one: AcP, AuM, AcM, AcF, AcS, AuA, AuJ. -/
import Derived.Test.YtnhekaepgpbijaaGreatDoorHAuP
import Derived.Test.YtnhekaepgpbijaaGreatDoorHCfX0G
import Derived.Test.YtnhekaepgpbijaaGreatDoorHPayDG
import Derived.Test.YtnhekaepgpbijaaGreatDoorHCfLcG
import Derived.Test.YtnhekaepgpbijaaGreatDoorHCfKG
import Derived.Test.YtnhekaepgpbijaaGreatDoorHPayMG
set_option linter.unusedVariables false
set_option linter.unusedSimpArgs false
set_option maxHeartbeats 40000000
set_option maxRecDepth 100000
namespace Go.Proofs.YtnhekaepgpbijaaGreatDoor
open Go.RowKit
structure CliS where
 ph:Nat
 told:Bool
 taken:List (List UInt8)
 tried:Nat
 alg:List UInt8
structure OutC where
 out:List UInt8
 ev:Option (Int × Int × List UInt8)
 err:ErrO
def authcL:List UInt8:=[97,117,116,104,99]
def waysL:List UInt8:=[119,97,121,115]
def signatureL:List UInt8:=[115,105,103,110,97,116,117,114,101]
def extL:List UInt8:=[101,120,116]
def keyL_:List UInt8:=[107,101,121]
def algsL_:List UInt8:=[115,101,114,118,101,114,45,115,105,103,45,97,108,103,115]
def startL:List UInt8:=[5,0,0,0,12,115,115,104,45,117,115,101,114,97,117,116,104]
theorem enc_start:encS 5 [⟨115,0,userauthL,[]⟩]=.ok startL:=by kernel_rfl
def firstN (l m:List (List UInt8)):Option (List UInt8):=l.find? fun x=>decide (x∈m)
def failC (s:CliS) (ps:List (List UInt8)) (k:Int):CliS × OutC:=(s,⟨[],none,some (ps,k)⟩)
def wrapC (r:CliS × OutC):CliS × OutC:=match r.2.err with
 | none=>r
 | some (ps,k)=>({ r.1 with ph:=5 },⟨[],none,some (authcL :: ps,k)⟩)
def encC (num:Int) (l:List Fld) (s:CliS) (ev:Option (Int × Int × List UInt8)):CliS × OutC:=match encS num l with
 | .ok b=>(s,⟨b,ev,none⟩)
 | r=>match encErr num r with
  | some (ps,k)=>failC s ps (k:Nat)
  | none=>(s,⟨[],none,none⟩)
def choC (al:List (List UInt8)) (s:CliS):Option (List UInt8):=if s.told=true then firstN al s.taken else al.head?
def keyC (ky:List Int) (i:Nat):Int:=(ky[i]?).getD 0
noncomputable def pubB (who:Int):List UInt8:=((tPub (tKey who)).bind bytF).getD []
def abtC (us alg pk:List UInt8) (k:Int):List Fld:=[⟨115,0,us,[]⟩,⟨115,0,connectL,[]⟩,⟨115,0,pubkeyL,[]⟩,⟨98,k,[],[]⟩,⟨115,0,alg,[]⟩,⟨116,0,pk,[]⟩]
noncomputable def qryC (us:List UInt8) (al:List (List UInt8)) (ky:List Int) (s:CliS):CliS × OutC:=match choC al s with
 | none=>failC s [waysL] 12
 | some a=>if ky.length≤s.tried then failC s [waysL] 12
  else encC 50 (abtC us a (pubB (keyC ky s.tried)) 0) ⟨2,s.told,s.taken,s.tried+1,a⟩ none
noncomputable def sigB_ (t:Tm):List UInt8:=(bytF t).getD []
noncomputable def sgnC (us:List UInt8) (ky:List Int) (sid:Option Tm) (s:CliS):CliS × OutC:=match userO sid (bs us) (bs connectL) (bs s.alg) (keyC ky (s.tried - 1)) with
 | none=>failC s [signatureL] 2
 | some t=>encC 50 (abtC us s.alg (pubB (keyC ky (s.tried - 1))) 1++[⟨116,0,sigB_ t,[]⟩]) ⟨3,s.told,s.taken,s.tried,s.alg⟩ (some (3,keyC ky (s.tried - 1),s.alg))
def extGo:List (List UInt8)→Bool × List (List UInt8)→(Bool × List (List UInt8)) × Option Int
 | a :: b :: r,t=>if a=algsL_ then (if (splitN b).1=0 then extGo r (true,(splitN b).2) else (t,some (splitN b).1)) else extGo r t
 | _,t=>(t,none)
def extC (l:List (List UInt8)) (s:CliS):CliS × OutC:=match extGo l (s.told,s.taken) with
 | (t,none)=>({ s with told:=t.1,taken:=t.2 },⟨[],none,none⟩)
 | (t,some k)=>failC { s with told:=t.1,taken:=t.2 } [extL] k
def mayC (num:Nat) (s:CliS):Bool :=
 if num=7∨num=53 then decide (s.ph≠0)
 else if num=6 then decide (s.ph=1)
 else if num=60 then decide (s.ph=2)
 else if num=52 then decide (s.ph=3)
 else if num=51 then decide (s.ph=2∨s.ph=3)
 else false
noncomputable def stpC (us:List UInt8) (al:List (List UInt8)) (ky:List Int) (sid:Option Tm) (s:CliS) (num:Nat) (l:List Fld):CliS × OutC :=
 if num=7 then extC (atF l 0).l s
 else if num=53 then (s,⟨[],none,none⟩)
 else if num=6 then (if (atF l 0).s≠userauthL then failC s [serviceL] 13 else qryC us al ky s)
 else if num=51 then (if pubkeyL ∉ (atF l 0).l then failC s [waysL] 12 else qryC us al ky s)
 else if num=52 then ({ s with ph:=4 },⟨[],some (5,keyC ky (s.tried - 1),s.alg),none⟩)
 else if num=60 then (if (atF l 0).s≠s.alg∨(atF l 1).s≠pubB (keyC ky (s.tried - 1)) then failC s [keyL_] 12 else sgnC us ky sid s)
 else qryC us al ky s
noncomputable def tkC (us:List UInt8) (al:List (List UInt8)) (ky:List Int) (sid:Option Tm) (s:CliS) (p:List UInt8):CliS × OutC :=
 wrapC <| if s.ph=0∨s.ph=5 then failC s [] 7
 else match decS p with
  | .ok num l=>if mayC num s=true then stpC us al ky sid s num l else failC s [] 7
  | r=>match decErr r with
   | some (ps,k)=>failC s ps k
   | none=>failC s [] 7
def srtC (s:CliS):CliS × OutC:=if s.ph=0 then ({ s with ph:=1 },⟨startL,none,none⟩) else wrapC (failC s [] 7)
end Go.Proofs.YtnhekaepgpbijaaGreatDoor
namespace Go.Proofs.YtnhekaepgpbijaaGreatDoor
open Go.RowKit Go.ChangeShapes Go.WideShapes Go.Sort
def Zone (lo hi:Nat) (S:Nat→Prop):Prop:=∀i,S i→i<lo∨hi≤i
theorem Zone.no {lo hi:Nat} {S:Nat→Prop} (h:Zone lo hi S) {b:Nat} (h1:lo≤b) (h2:b<hi):¬ S b:=fun h3=>by
 rcases h b h3 with h4 | h4 <;> omega
theorem Zone.grown {lo hi:Nat} {S S':Nat→Prop} {w w':World} (h:Zone lo hi S) (hG:Grown S w S' w') (hh:hi≤w.heap.size):Zone lo hi S':=fun i h1=>by
 rcases hG.new i h1 with h2 | h2
 ·exact h i h2
 ·right
  omega
structure SrvM (w0:World) (B g lo hi bs_ bg:Nat) (A9:Option Addr) (c9:Nat) (gr:List (List UInt8 × Int)) (A8:Option Addr) (c8:Nat) (al:List (List UInt8)) (lim n:Int) (sid:Option Tm) (T:List Tm) (S:Nat→Prop) (s:SvS) (W:World):Prop where
 pay:Pay w0 B g T S W
 zone:Zone lo hi S
 hiw:hi≤W.heap.size
 lo0:B≤lo
 los:lo≤bs_
 his:bs_<hi
 log:lo≤bg
 hig:bg<hi
 ne:bs_≠bg
 sb:Blk W bs_ 137 #[.pointer (some ⟨g,0,none⟩),.int .i64 n,.pointer (some ⟨bg,0,none⟩),.int .i64 s.ph]
 gb:Blk W bg 201 #[.slice A9 gr.length c9,.slice A8 al.length c8,.int .i64 lim,.int .i64 s.fl]
 r9:W.ownsRow lo 158 2 (.slice A9 gr.length c9) gr.length (flatG gr)
 r8:W.ownsRow lo 9 1 (.slice A8 al.length c8) al.length ((bss al).map Value.string)
 h9:∀i,(Value.slice A9 gr.length c9).ownBlock=some i→i<hi
 h8:∀i,(Value.slice A8 al.length c8).ownBlock=some i→i<hi
 id:Idn T sid n
section
variable {w0 W W' : World} {B g lo hi bs_ bg : Nat} {A9 A8 : Option Addr} {c9 c8 : Nat} {gr : List (List UInt8 × Int)} {al : List (List UInt8)} {lim n : Int} {sid : Option Tm} {T T' : List Tm} {S S' : Nat → Prop} {s : SvS}
theorem SrvM.below (h:SrvM w0 B g lo hi bs_ bg A9 c9 gr A8 c8 al lim n sid T S s W) (hb:Below W.heap.size W W'):SrvM w0 B g lo hi bs_ bg A9 c9 gr A8 c8 al lim n sid T S s W' :=
 { h with pay:=h.pay.below hb,hiw:=Nat.le_trans h.hiw hb.size,sb:=h.sb.below hb h.sb.lt,gb:=h.gb.below hb h.gb.lt,r9:=h.r9.kept (only_of_below hb none) (by cases (Value.slice A9 gr.length c9).ownBlock <;> simp),r8:=h.r8.kept (only_of_below hb none) (by cases (Value.slice A8 al.length c8).ownBlock <;> simp) }
theorem SrvM.grown (h:SrvM w0 B g lo hi bs_ bg A9 c9 gr A8 c8 al lim n sid T S s W) (hG:Grown S W S' W') (hP:Pay w0 B g T' S' W') (hp:T <+: T'):SrvM w0 B g lo hi bs_ bg A9 c9 gr A8 c8 al lim n sid T' S' s W' :=
 { h with pay:=hP,zone:=h.zone.grown hG h.hiw,hiw:=Nat.le_trans h.hiw hG.size,sb:=hG.outs.blk h.sb (h.zone.no h.los h.his),gb:=hG.outs.blk h.gb (h.zone.no h.log h.hig),r9:=hG.outs.own h.r9 (fun i hi=>h.zone.no (h.r9.lt i hi).1 (h.h9 i hi)),r8:=hG.outs.own h.r8 (fun i hi=>h.zone.no (h.r8.lt i hi).1 (h.h8 i hi)),id:=h.id.pre hp }
theorem SrvM.row (h:SrvM w0 B g lo hi bs_ bg A9 c9 gr A8 c8 al lim n sid T S s W) {b:Nat} (k:W.grownBy W' (some b)) (hn:¬ S b) (hB:B≤b) (hb:hi≤b):SrvM w0 B g lo hi bs_ bg A9 c9 gr A8 c8 al lim n sid T S s W' :=
 { h with pay:=h.pay.kept k hn hB,hiw:=Nat.le_trans h.hiw k.size,sb:=h.sb.grown k (fun e=>by have:=Option.some.inj e;have:=h.his;omega),gb:=h.gb.grown k (fun e=>by have:=Option.some.inj e;have:=h.hig;omega),r9:=h.r9.kept k (.inr (fun e=>by have:=h.h9 _ e;omega)),r8:=h.r8.kept k (.inr (fun e=>by have:=h.h8 _ e;omega)) }
theorem own_setB {W:World} {b g size k:Nat} {e t:TypeId} {v:Value} {xs:List Value} {cs:Array Value} (h:W.ownsRow b e size v k xs) (hb:Blk W g t cs) (hne:e≠t) (c:Nat) (u:Value):(W.setCell ⟨g,c,none⟩ u).ownsRow b e size v k xs :=
 h.kept (only_setCell (only_refl W (some g)) (.inl rfl) u) (.inr (own_blk_ne h hb hne))
end
def SB (b1 b2:Nat) (S:Nat→Prop) (i:Nat):Prop:=S i∨i=b1∨i=b2
section
variable {w w' : World} {S S' : Nat → Prop} {b1 b2 : Nat}
theorem Grown.sb (h:Grown S w S' w') (b1 b2:Nat):Grown (SB b1 b2 S) w (SB b1 b2 S') w' :=
 ⟨h.os,h.tape,h.output,h.size,fun i hi hn=>h.block i hi (fun h2=>hn (.inl h2)),fun i hi=>hi.imp (h.sub i) id,fun i hi=>by
  rcases hi with hi | hi
  ·exact (h.new i hi).imp .inl id
  ·exact .inl (.inr hi)⟩
theorem sb_1 (h:w.grownBy w' (some b1)):Grown (SB b1 b2 S) w (SB b1 b2 S) w' :=
 ⟨h.os,h.tape,h.output,h.size,fun i hi hn=>h.block i hi (fun e=>hn (.inr (.inl (Option.some.inj e)))),fun _ h=>h,fun _ h=>.inl h⟩
def ErV (w:World) (o:Option (List (List UInt8) × Int)) (v:Value):Prop:=match o with
 | none=>v=.nilIface
 | some (ps,k)=>IsErr w v ps k
end
def KepT (lo hi:Nat) (w:World) (v:Value) (l:List (List UInt8)):Prop:=∀V:World,hi≤V.heap.size→(∀p:Addr,lo≤p.block→p.block<hi→V.cell? p=w.cell? p)→Txs V v l
def KepI (lo hi:Nat) (w:World) (A:Option Addr) (l:List Int):Prop:=∀V:World,hi≤V.heap.size→(∀p:Addr,lo≤p.block→p.block<hi→V.cell? p=w.cell? p)→Sl 0 V 1 A l.length (l.map (Value.int .i64))
section
variable {lo hi : Nat} {w w' : World} {v : Value} {l : List (List UInt8)} {A : Option Addr} {k : List Int}
theorem KepT.mk (h:Sl lo w 1 A l.length ((l.map bs).map Value.string)) {c:Nat} (hh:w.heap.size≤hi) (hk:∀p:Addr,lo≤p.block→p.block<w.heap.size→w'.cell? p=w.cell? p):KepT lo hi w' (.slice A l.length c) l:=fun V hV hp=>by
 have h2:=(h.keep (w':=V) (Nat.le_trans hh hV) (fun p h1 h2=>(hp p h1 (Nat.lt_of_lt_of_le h2 hh)).trans (hk p h1 h2))).mono (Nat.zero_le _)
 exact ⟨A,c,by simp,by simpa using h2⟩
theorem KepT.step (h:KepT lo hi w v l) (hk:∀p:Addr,lo≤p.block→p.block<hi→w'.cell? p=w.cell? p):KepT lo hi w' v l:=fun V hV hp=>h V hV fun p h1 h2=>(hp p h1 h2).trans (hk p h1 h2)
theorem KepT.txs (h:KepT lo hi w v l) (hh:hi≤w.heap.size):Txs w v l:=h w hh fun _ _ _=>rfl
theorem KepI.mk (h:Sl lo w 1 A k.length (k.map (Value.int .i64))) (hh:w.heap.size≤hi) (hk:∀p:Addr,lo≤p.block→p.block<w.heap.size→w'.cell? p=w.cell? p):KepI lo hi w' A k:=fun V hV hp =>
 (h.keep (w':=V) (Nat.le_trans hh hV) (fun p h1 h2=>(hp p h1 (Nat.lt_of_lt_of_le h2 hh)).trans (hk p h1 h2))).mono (Nat.zero_le _)
theorem KepI.step (h:KepI lo hi w A k) (hk:∀p:Addr,lo≤p.block→p.block<hi→w'.cell? p=w.cell? p):KepI lo hi w' A k:=fun V hV hp=>h V hV fun p h1 h2=>(hp p h1 h2).trans (hk p h1 h2)
end
structure CBk (w:World) (b:Nat) (P Q:Array Value):Prop where
 blk:Blk w b 121 (P++Q)
 sz:P.size=24
section
variable {w w' : World} {b : Nat} {P Q : Array Value}
theorem CBk.lo (h:CBk w b P Q) {i:Nat} {v:Value} (hi:P[i]?=some v):w.cell? ⟨b,i,none⟩=some v:=by
 have hl:i<P.size:=by
  rcases Nat.lt_or_ge i P.size with h2 | h2
  ·exact h2
  ·rw [Array.getElem?_eq_none h2] at hi;cases hi
 rw [h.blk.cell i,Array.getElem?_append_left hl,hi]
theorem CBk.hi (h:CBk w b P Q) {j:Nat} {v:Value} (hj:Q[j]?=some v):w.cell? ⟨b,24+j,none⟩=some v:=by
 rw [h.blk.cell (24+j),Array.getElem?_append_right (by rw [h.sz];omega),h.sz,Nat.add_sub_cancel_left,hj]
theorem CBk.frz (h:CBk w b P Q) (i:Nat):w.frozen? ⟨b,i,none⟩=false:=h.blk.frozen i
theorem CBk.set_ (h:CBk w b P Q) (j:Nat) (v:Value):CBk (w.setCell ⟨b,24+j,none⟩ v) b P (Q.setIfInBounds j v):=⟨by
 have h2:=h.blk.set_ (24+j) v
 rwa [show (P++Q).setIfInBounds (24+j) v=P++Q.setIfInBounds j v from by
  rw [Array.setIfInBounds_append,if_neg (by have:=h.sz;omega),h.sz,Nat.add_sub_cancel_left]] at h2,h.sz⟩
theorem CBk.below (h:CBk w b P Q) (hb:Below w.heap.size w w'):CBk w' b P Q:=⟨h.blk.below hb h.blk.lt,h.sz⟩
end
structure ClQ where
 w0:World
 B:Nat
 g:Nat
 lo:Nat
 b:Nat
 P:Array Value
 A8:Option Addr
 c8:Nat
 al:List (List UInt8)
 A10:Option Addr
 c10:Nat
 ky:List Int
 us:List UInt8
 n:Int
 sid:Option Tm
structure ClQ.Ok (q:ClQ):Prop where
 p0:q.P[0]?=some (.pointer (some ⟨q.g,0,none⟩))
 p12:q.P[12]?=some (.slice q.A8 q.al.length q.c8)
 p17:q.P[17]?=some (.string (bs q.us))
 p18:q.P[18]?=some (.slice q.A10 q.ky.length q.c10)
 al1:1≤q.al.length
 al2:q.al.length≤1000
 ky2:q.ky.length≤1000
 us2:q.us.length≤1000
 aly:∀a∈q.al,a.length≤1000
 sidz:∀u,q.sid=some u→(enc u).length≤1000
def cliQ (n:Int) (s:CliS) (A:Option Addr) (c:Nat):Array Value:=#[.int .i64 n,.int .i64 (s.ph:Nat),.bool s.told,.slice A s.taken.length c,.int .i64 (s.tried:Nat),.string (bs s.alg)]
structure TkP where
 A:Option Addr
 c:Nat
 lo:Nat
 hi:Nat
structure CliM (q:ClQ) (T:List Tm) (S:Nat→Prop) (s:CliS) (z:TkP) (W:World):Prop where
 ok:q.Ok
 pay:Pay q.w0 q.B q.g T S W
 zone:Zone q.lo (q.b+1) S
 lo0:q.B≤q.lo
 lob:q.lo≤q.b
 cb:CBk W q.b q.P (cliQ q.n s z.A z.c)
 ral:KepT q.lo q.b W (.slice q.A8 q.al.length q.c8) q.al
 rky:KepI q.lo q.b W q.A10 q.ky
 tk:q.b<z.lo∧z.lo≤z.hi∧z.hi≤W.heap.size∧Zone z.lo z.hi S∧KepT z.lo z.hi W (.slice z.A s.taken.length z.c) s.taken
 id:Idn T q.sid q.n
 tkl:s.taken.length≤1000
 try_:s.tried≤q.ky.length
 alz:s.alg.length≤1000
section
variable {q : ClQ} {T T' : List Tm} {S S' : Nat → Prop} {s : CliS} {z : TkP} {W W' : World}
theorem CliM.blt (h:CliM q T S s z W):q.b<W.heap.size:=h.cb.blk.lt
theorem CliM.below (h:CliM q T S s z W) (hb:Below W.heap.size W W'):CliM q T S s z W':=by
 have hlt:=h.blt
 obtain ⟨h1,h2,h3,h4,h5⟩:=h.tk
 exact { h with pay:=h.pay.below hb,cb:=h.cb.below hb,ral:=h.ral.step fun p _ h9=>hb.cell (by omega),rky:=h.rky.step fun p _ h9=>hb.cell (by omega),tk:=⟨h1,h2,Nat.le_trans h3 hb.size,h4,h5.step fun p _ h9=>hb.cell (by omega)⟩ }
theorem CliM.grown (h:CliM q T S s z W) (hG:Grown S W S' W') (hP:Pay q.w0 q.B q.g T' S' W') (hp:T <+: T'):CliM q T' S' s z W':=by
 have hlt:=h.blt
 obtain ⟨h1,h2,h3,h4,h5⟩:=h.tk
 have hc:∀p:Addr,¬ S p.block→p.block<W.heap.size→W'.cell? p=W.cell? p:=fun p h8 h9=>World.cell?_of_block (hG.block p.block h9 h8)
 exact { h with pay:=hP,zone:=h.zone.grown hG (by omega),cb:=⟨hG.outs.blk h.cb.blk (h.zone.no h.lob (by omega)),h.cb.sz⟩,ral:=h.ral.step fun p h8 h9=>hc p (h.zone.no h8 (by omega)) (by omega),rky:=h.rky.step fun p h8 h9=>hc p (h.zone.no h8 (by omega)) (by omega),tk:=⟨h1,h2,Nat.le_trans h3 hG.size,h4.grown hG h3,h5.step fun p h8 h9=>hc p (h4.no h8 h9) (by omega)⟩,id:=h.id.pre hp }
theorem CliM.set_ (h:CliM q T S s z W) {s':CliS} {z':TkP} (hW:∀p:Addr,p.block≠q.b→W'.cell? p=W.cell? p) (k:W.grownBy W' (some q.b)) (hB:CBk W' q.b q.P (cliQ q.n s' z'.A z'.c))
  (ht:q.b<z'.lo∧z'.lo≤z'.hi∧z'.hi≤W.heap.size∧Zone z'.lo z'.hi S∧KepT z'.lo z'.hi W (.slice z'.A s'.taken.length z'.c) s'.taken) (h1:s'.taken.length≤1000) (h2:s'.tried≤q.ky.length) (h3:s'.alg.length≤1000):CliM q T S s' z' W':=by
 have hlt:=h.blt
 obtain ⟨g1,g2,g3,g4,g5⟩:=ht
 exact { h with pay:=h.pay.kept k (h.zone.no h.lob (by omega)) (Nat.le_trans h.lo0 h.lob),cb:=hB,ral:=h.ral.step fun p _ h9=>hW p (by omega),rky:=h.rky.step fun p _ h9=>hW p (by omega),tk:=⟨g1,g2,Nat.le_trans g3 k.size,g4,g5.step fun p h8 _=>hW p (by omega)⟩,tkl:=h1,try_:=h2,alz:=h3 }
theorem CliM.row (h:CliM q T S s z W) {r:Nat} (k:W.grownBy W' (some r)) (hn:¬ S r) (hB:q.B≤r) (hb:q.b<r) (hk:z.hi≤r):CliM q T S s z W':=by
 have hlt:=h.blt
 obtain ⟨h1,h2,h3,h4,h5⟩:=h.tk
 have hc:∀p:Addr,p.block≠r→p.block<W.heap.size→W'.cell? p=W.cell? p:=fun p h8 h9=>World.cell?_of_block (k.block p.block h9 (fun e=>h8 (Option.some.inj e)))
 exact { h with pay:=h.pay.kept k hn hB,cb:=⟨h.cb.blk.grown k (fun e=>by have:=Option.some.inj e;omega),h.cb.sz⟩,ral:=h.ral.step fun p _ h9=>hc p (by omega) (by omega),rky:=h.rky.step fun p _ h9=>hc p (by omega) (by omega),tk:=⟨h1,h2,Nat.le_trans h3 k.size,h4,h5.step fun p h8 h9=>hc p (by omega) (by omega)⟩ }
end
theorem first_at {l m:List (List UInt8)} {k:Nat} (hk:k<l.length) (h:∀x∈l.take k,x ∉ m) (hm:l[k]∈m):firstN l m=some l[k]:=by
 have e:l=l.take k++(l[k] :: l.drop (k+1)):=by rw [←List.drop_eq_getElem_cons hk,List.take_append_drop]
 have h1:(l.take k).find? (fun x=>decide (x∈m))=none:=List.find?_eq_none.2 fun x hx=>by rw [decide_eq_false (h x hx)];decide
 have h0:∀(y:List UInt8) (r:List (List UInt8)),y∈m→(y :: r).find? (fun x=>decide (x∈m))=some y:=fun y r hy=>by rw [List.find?_cons,decide_eq_true hy]
 have h2:=h0 l[k] (l.drop (k+1)) hm
 show l.find? (fun x=>decide (x∈m))=some l[k]
 generalize l[k]=y at e h2 ⊢
 rw [e,List.find?_append,h1,h2]
 rfl
theorem first_no {l m:List (List UInt8)} (h:∀x∈l,x ∉ m):firstN l m=none:=List.find?_eq_none.2 fun x hx=>by rw [decide_eq_false (h x hx)];decide
def FirstQ (o:Option (List UInt8)) (w:World) (e:Ending) (w':World):Prop:=e=.returned (.tuple #[.string (bs (o.getD [])),.bool o.isSome])∧w'=w
section
variable {w : World} {A : Option Addr} {c : Nat} {ls : List (List UInt8)}
theorem nfirstN_any {B:Option Addr} {d:Nat} {ms:List (List UInt8)} (h:Txs w (.slice A ls.length c) ls) (hll:ls.length≤1000000) (h2:Txs w (.slice B ms.length d) ms) (hml:ms.length≤9223372036854775807) :
  Calls Tryz.prog 270 #[.slice A ls.length c,.slice B ms.length d] w (FirstQ (firstN ls ms) w):=by
 have HH:=hide (fun s=>nhas_any h2 hml s)
 obtain ⟨A',c',hv,hA⟩:=h.open_
 obtain ⟨rfl,rfl⟩:A'=A∧c'=c:=by injection hv with e1 _ e2;exact ⟨e1.symm,e2.symm⟩
 clear hv h h2
 generalize hz:firstN ls ms=z
 have Hz:=hide hz
 clear hz
 go_enter Tryz.func270,Tryz.ntmps270
 go_wp2_with fail
 go_loop [10] (fun i=>∃k:Nat,k≤ls.length∧i=.int .i64 k∧Hid (∀x∈ls.take k,x ∉ ms)) (fun i=>ls.length - (intOf i).toNat)
 case atStart=>exact ⟨0,Nat.zero_le _,rfl,hide (by simp)⟩
 case round =>
  obtain ⟨k,hk,rfl,H⟩:=hrel
  by_cases hlt:k<ls.length
  ·have hkI:(k:Int)<ls.length:=by omega
   obtain ⟨ad,rfl,had,hc⟩:=hA k hlt
   have HC:=hide (HH.out ls[k])
   by_cases he:ls[k]∈ms
   ·rw [decide_eq_true he] at HC
    have HY:=hide (show z=some ls[k] from by rw [←Hz.out];exact first_at hlt H.out he)
    clear he H hA HH
    go_wp2_with (first | (go_at_call 129;refine HC.out.mono ?_;rintro e w1 ⟨rfl,rfl⟩) | fail)
    go_ret2
    rw [HY.out]
    exact ⟨rfl,rfl⟩
   ·rw [decide_eq_false he] at HC
    have HN:=hide (show ∀x∈ls.take (k+1),x ∉ ms from by
     intro x hx
     rw [List.take_succ_eq_append_getElem hlt] at hx
     rcases List.mem_append.1 hx with hx | hx
     ·exact H.out x hx
     ·simp only [List.mem_singleton] at hx
      subst hx
      exact he)
    clear he H hA HH
    go_wp2_with (first | (go_at_call 129;refine HC.out.mono ?_;rintro e w1 ⟨rfl,rfl⟩) | fail)
    go_round
    case rel=>exact ⟨k+1,hlt,by go_num,HN⟩
    case measure=>simp [intOf];omega
  ·have hkI:¬ (k:Int)<ls.length:=by omega
   have HN:=hide (show z=none from by
    rw [←Hz.out]
    exact first_no fun x hx=>H.out x (by rw [List.take_of_length_le (by omega)];exact hx))
   clear H hA HH
   go_wp2_with fail
   go_ret2
   rw [HN.out]
   exact ⟨rfl,rfl⟩
end
end Go.Proofs.YtnhekaepgpbijaaGreatDoor
namespace Go.Proofs.YtnhekaepgpbijaaGreatDoor
open Go.RowKit
theorem bytF_len {o:Option Tm} (h:fineO o):((o.bind bytF).getD []).length≤200000:=by
 cases o with
 | none=>exact Nat.zero_le _
 | some t =>
  have h2:=h t rfl
  show ((bytF t).getD []).length≤_
  unfold bytF
  split
  ·split
   ·exact Nat.zero_le _
   ·have h3:=s_le h2
    show t.s.data.toList.length≤_
    rw [size_len]
    omega
  ·show (enc t).length≤_
   have:=h2.2
   omega
theorem pubB_len (who:Int):(pubB who).length≤200000:=bytF_len (tPub_fine (tKey_fine who))
theorem key_some {who:Int} (h:okN who=true):tKey who=some (.mk 3 who.toNat 0 eB []):=if_pos h
theorem pubB_ok {who:Int} (h:okN who=true):∃p,tPub (tKey who)=some p∧bytF p=some (pubB who)∧ofT (pubB who)=some p∧isPb (some p)=true∧(whoO (some p):Int)=who:=by
 have hk:=key_some h
 have hp:tPub (tKey who)=some (.mk 4 0 0 eB [.mk 3 who.toNat 0 eB []]):=by rw [hk];rfl
 refine ⟨_,hp,?_,?_,rfl,?_⟩
 ·unfold pubB
  rw [hp]
  rfl
 ·have hf:=tPub_fine (tKey_fine who) _ hp
  have e:pubB who=enc (.mk 4 0 0 eB [.mk 3 who.toNat 0 eB []]):=by
   unfold pubB
   rw [hp]
   rfl
  rw [e]
  exact ofT_op hf.1 (show (4:Nat)≠1 by decide)
 ·show ((who.toNat:Nat):Int)=who
  unfold okN at h
  simp only [Bool.and_eq_true,decide_eq_true_eq] at h
  omega
structure SgnP (us:List UInt8) (ky:List Int) (sid:Option Tm) (s s':CliS) (o:OutC):Prop where
 ph:s.ph=2
 ph':s'.ph=3
 tr:s'.tried=s.tried
 ev:o.ev=some (3,keyC ky (s'.tried - 1),s'.alg)
 err:o.err=none
 dec:∃t,userO sid (bs us) (bs connectL) (bs s'.alg) (keyC ky (s'.tried - 1))=some t∧decS o.out=.ok 50 (abtC us s'.alg (pubB (keyC ky (s'.tried - 1))) 1++[⟨116,0,sigB_ t,[]⟩])
structure StpI (k:Nat) (s s':CliS):Prop where
 le:s.tried≤s'.tried
 lk:s.tried≤k→s'.tried≤k
 p2:s'.ph=2→s'.tried=s.tried+1∨(s.ph=2∧s'.tried=s.tried)
 p3:s'.ph=3→(s.ph=2∨s.ph=3)∧s'.tried=s.tried
def NoSg (o:OutC):Prop:=o.out=[]∨∃n l,decS o.out=.ok n l∧(n≠50∨l.length≠7)
def SgR (us:List UInt8) (ky:List Int) (sid:Option Tm) (s:CliS) (r:CliS × OutC):Prop:=StpI ky.length s r.1∧(NoSg r.2∨SgnP us ky sid s r.1 r.2)
section
variable {us : List UInt8} {al : List (List UInt8)} {ky : List Int} {sid : Option Tm} {s : CliS}
theorem StpI.refl (s:CliS) (k:Nat):StpI k s s:=⟨Nat.le_refl _,id,fun h=>.inr ⟨h,rfl⟩,fun h=>⟨.inr h,rfl⟩⟩
theorem StpI.fail {s s':CliS} {k:Nat} (h:StpI k s s'):StpI k s { s' with ph:=5 }:=⟨h.le,h.lk,fun h9=>(by cases h9),fun h9=>(by cases h9)⟩
theorem sg_fail {s':CliS} (h:StpI ky.length s s') (ps:List (List UInt8)) (k:Int):SgR us ky sid s (failC s' ps k):=⟨h,.inl (.inl rfl)⟩
theorem sg_wrap {r:CliS × OutC} (h:SgR us ky sid s r):SgR us ky sid s (wrapC r):=by
 obtain ⟨s1,out,ev,err⟩:=r
 cases err with
 | none=>exact h
 | some e =>
  obtain ⟨ps,k⟩:=e
  exact ⟨h.1.fail,.inl (.inl rfl)⟩
theorem sg_enc {num:Int} {l:List Fld} {s':CliS} {ev:Option (Int × Int × List UInt8)} (h:StpI ky.length s s') (hf:∀x∈l,fitF x) (hs:∀b,encS num l=.ok b→decS b=.ok num.toNat l→NoSg ⟨b,ev,none⟩∨SgnP us ky sid s s' ⟨b,ev,none⟩):SgR us ky sid s (encC num l s' ev):=by
 unfold encC
 cases he:encS num l with
 | ok b=>exact ⟨h,hs b he (dec_enc hf he).1⟩
 | none =>
  simp only
  split
  ·exact sg_fail h _ _
  ·exact ⟨h,.inl (.inl rfl)⟩
 | long =>
  simp only
  split
  ·exact sg_fail h _ _
  ·exact ⟨h,.inl (.inl rfl)⟩
 | bad e i =>
  simp only
  split
  ·exact sg_fail h _ _
  ·exact ⟨h,.inl (.inl rfl)⟩
theorem abt_fit {alg pk:List UInt8} {k:Int} (h1:us.length≤1000) (h2:alg.length≤1000) (h3:pk.length≤200000):∀x∈abtC us alg pk k,fitF x:=by
 intro x hx
 simp only [abtC,List.mem_cons,List.not_mem_nil,or_false] at hx
 rcases hx with rfl | rfl | rfl | rfl | rfl | rfl
 ·exact ⟨by show us.length<_;omega,by simp⟩
 ·exact ⟨by decide,by simp⟩
 ·exact ⟨by decide,by simp⟩
 ·exact ⟨by simp,by simp⟩
 ·exact ⟨by show alg.length<_;omega,by simp⟩
 ·exact ⟨by show pk.length<_;omega,by simp⟩
theorem cho_len (ha:∀a∈al,a.length≤1000) {a:List UInt8} (h:choC al s=some a):a.length≤1000:=by
 unfold choC at h
 split at h
 ·exact ha a (List.mem_of_find?_eq_some h)
 ·exact ha a (List.mem_of_head? h)
theorem sg_qry (hu:us.length≤1000) (ha:∀a∈al,a.length≤1000):SgR us ky sid s (qryC us al ky s):=by
 unfold qryC
 cases hc:choC al s with
 | none=>exact sg_fail (StpI.refl _ _) _ _
 | some a =>
  simp only
  split
  ·exact sg_fail (StpI.refl _ _) _ _
  ·rename_i hk
   refine sg_enc ⟨Nat.le_succ _,fun _=>(by show s.tried+1≤ky.length;omega),fun _=>.inl rfl,fun h9=>(by cases h9)⟩ (abt_fit hu (cho_len ha hc) (pubB_len _)) fun b _ hd=>.inl (.inr ⟨_,_,hd,.inr (by simp [abtC])⟩)
theorem sg_sgn (hu:us.length≤1000) (ha:s.alg.length≤1000) (hs:fineO sid) (h2:s.ph=2):SgR us ky sid s (sgnC us ky sid s):=by
 unfold sgnC
 cases ht:userO sid (bs us) (bs connectL) (bs s.alg) (keyC ky (s.tried - 1)) with
 | none=>exact sg_fail (StpI.refl _ _) _ _
 | some t =>
  simp only
  have hf:=userO_fine hs (user:=bs us) (service:=bs connectL) (alg:=bs s.alg) (by rw [bs_size];omega) (by rw [bs_size];decide) (by rw [bs_size];omega) (keyC ky (s.tried - 1))
  have hz:(sigB_ t).length≤200000:=by
   have:=bytF_len hf
   rw [ht] at this
   exact this
  refine sg_enc ⟨Nat.le_refl _,id,fun h9=>(by cases h9),fun _=>⟨.inl h2,rfl⟩⟩ (fun x hx=>?_) fun b _ hd=>.inr ⟨h2,rfl,rfl,rfl,rfl,t,ht,hd⟩
  rcases List.mem_append.1 hx with hx | hx
  ·exact abt_fit hu ha (pubB_len _) x hx
  ·simp only [List.mem_singleton] at hx
   subst hx
   exact ⟨by show (sigB_ t).length<_;omega,by simp⟩
theorem sg_ext (l:List (List UInt8)):SgR us ky sid s (extC l s):=by
 unfold extC
 split
 ·exact ⟨⟨Nat.le_refl _,id,fun h=>.inr ⟨h,rfl⟩,fun h=>⟨.inr h,rfl⟩⟩,.inl (.inl rfl)⟩
 ·exact ⟨⟨Nat.le_refl _,id,fun h=>.inr ⟨h,rfl⟩,fun h=>⟨.inr h,rfl⟩⟩,.inl (.inl rfl)⟩
theorem sg_stp (hu:us.length≤1000) (ha:∀a∈al,a.length≤1000) (hz:s.alg.length≤1000) (hs:fineO sid) {num:Nat} (hm:mayC num s=true) (l:List Fld):SgR us ky sid s (stpC us al ky sid s num l):=by
 unfold stpC
 split
 ·exact sg_ext _
 ·split
  ·exact ⟨StpI.refl _ _,.inl (.inl rfl)⟩
  ·split
   ·split
    ·exact sg_fail (StpI.refl _ _) _ _
    ·exact sg_qry hu ha
   ·split
    ·split
     ·exact sg_fail (StpI.refl _ _) _ _
     ·exact sg_qry hu ha
    ·split
     ·exact ⟨⟨Nat.le_refl _,id,fun h9=>(by cases h9),fun h9=>(by cases h9)⟩,.inl (.inl rfl)⟩
     ·split
      ·split
       ·exact sg_fail (StpI.refl _ _) _ _
       ·rename_i n7 n53 n6 n51 n52 n60 _
        subst n60
        have h2:s.ph=2:=by simpa [mayC] using hm
        exact sg_sgn hu hz hs h2
      ·exact sg_qry hu ha
theorem sg_tak (hu:us.length≤1000) (ha:∀a∈al,a.length≤1000) (hz:s.alg.length≤1000) (hs:fineO sid) (p:List UInt8):SgR us ky sid s (tkC us al ky sid s p):=by
 unfold tkC
 refine sg_wrap ?_
 split
 ·exact sg_fail (StpI.refl _ _) _ _
 ·split
  ·split
   ·rename_i hm
    exact sg_stp hu ha hz hs hm _
   ·exact sg_fail (StpI.refl _ _) _ _
  ·split
   ·exact sg_fail (StpI.refl _ _) _ _
   ·exact sg_fail (StpI.refl _ _) _ _
theorem dec_start:decS startL=.ok 5 [⟨115,0,userauthL,[]⟩]:=(dec_enc (fun x hx=>by simp only [List.mem_singleton] at hx;subst hx;exact ⟨by decide,by simp⟩) enc_start).1
theorem sg_srt:SgR us ky sid s (srtC s):=by
 unfold srtC
 split
 ·exact ⟨⟨Nat.le_refl _,id,fun h9=>(by cases h9),fun h9=>(by cases h9)⟩,.inl (.inr ⟨_,_,dec_start,.inl (by decide)⟩)⟩
 ·exact sg_wrap (sg_fail (StpI.refl _ _) _ _)
structure SgI (k:Nat) (s:CliS) (g:Nat):Prop where
 le:g≤s.tried
 lk:s.tried≤k
 p2:s.ph=2→g<s.tried
theorem sg_step {r:CliS × OutC} {g:Nat} (h:SgI ky.length s g) (hr:SgR us ky sid s r):(NoSg r.2∧SgI ky.length r.1 g)∨(SgnP us ky sid s r.1 r.2∧g<r.1.tried∧SgI ky.length r.1 r.1.tried):=by
 obtain ⟨h1,h2 | h2⟩:=hr
 ·refine .inl ⟨h2,Nat.le_trans h.le h1.le,h1.lk h.lk,fun h9=>?_⟩
  rcases h1.p2 h9 with h8 | ⟨h8,h7⟩
  ·have:=h.le
   omega
  ·have:=h.p2 h8
   omega
 ·refine .inr ⟨h2,(by have:=h.p2 h2.ph;rw [h2.tr];exact this),Nat.le_refl _,h1.lk h.lk,fun h9=>(by rw [h2.ph'] at h9;cases h9)⟩
end
end Go.Proofs.YtnhekaepgpbijaaGreatDoor
namespace Go.Proofs.YtnhekaepgpbijaaGreatDoor
open Go.RowKit Go.ChangeShapes Go.WideShapes Go.Sort
structure CfP.W (c:CfP) (w:World):Prop where
 cw:CfW w c.sw c.cm c.us [.slice c.A0 c.n0 c.c0,.slice c.A1 c.n1 c.c1,.slice c.A2 c.n2 c.c2,.slice c.A3 c.n3 c.c3,.slice c.A4 c.n4 c.c4,.slice c.A5 c.n5 c.c5,.slice c.A6 c.n6 c.c6,.slice c.A7 c.n7 c.c7] c.ls c.A8 c.c8 c.al c.A9 c.gr c.A10 c.ky
 u0:IntKind.i64.wrap c.q0=c.q0
 u1:IntKind.i64.wrap c.q1=c.q1
 u2:IntKind.i64.wrap c.q2=c.q2
def CfP.fw (c:CfP):Bool:=fewC c.sw c.cm c.us c.ls c.al c.gr c.ky
theorem CfP.W.below {c:CfP} {w w':World} (h:c.W w) (hb:Below w.heap.size w w'):c.W w':=⟨CfW.below h.cw hb,h.u0,h.u1,h.u2⟩
theorem CfP.W.m {c:CfP} {w:World} (h:c.W w) (hf:c.fw=true):c.M w:=CfW.few h.cw hf
theorem open_confP {w:World} {us0:List Value} (h:Shp.oks w confS us0):∃c:CfP,us0=c.cells.toList∧c.W w:=by
 obtain ⟨sv,ex,ge,sw,cm,us,own,lim,peer,q0,q1,q2,A0,n0,c0,A1,n1,c1,A2,n2,c2,A3,n3,c3,A4,n4,c4,A5,n5,c5,A6,n6,c6,A7,n7,c7,A8,c8,A9,c9,A10,c10,ls,al,gr,ky,rfl,hC,u0,u1,u2⟩:=open_conf h
 exact ⟨⟨sv,ex,ge,sw,cm,us,A0,A1,A2,A3,A4,A5,A6,A7,A8,A9,A10,n0,n1,n2,n3,n4,n5,n6,n7,c0,c1,c2,c3,c4,c5,c6,c7,c8,c9,c10,al,own,lim,peer,q0,q1,q2,gr,ky,ls⟩,rfl,hC,u0,u1,u2⟩
structure CvP (c:CfP) (cv:Array Value):Prop where
 val:c.val=.agg cv
 len:cv.toList.length=23
 one:cv.all (·.oneCell')=true
 p0:cv[0]?=some (.bool c.sv)
 p11:cv[11]?=some (.slice c.A8 c.al.length c.c8)
 p13:cv[13]?=some (.slice c.A9 c.gr.length c.c9)
 p14:cv[14]?=some (.int .i64 c.lim)
theorem conf_box (c:CfP):∃cv:Array Value,c.cells=cv∧CvP c cv:=by
 refine ⟨_,rfl,rfl,rfl,?_,rfl,rfl,rfl,rfl⟩
 unfold CfP.cells
 simp [Value.oneCell']
structure StB (w:World) (b:Nat) (cv:Array Value) (sid:ByteArray):Prop where
 blk:Blk w b 73 (cv++#[Value.string sid])
 size:cv.toList.length=23
section
variable {w w' : World} {b : Nat} {cv : Array Value} {sid : ByteArray}
theorem StB.below (h:StB w b cv sid) (hb:Below w.heap.size w w'):StB w' b cv sid:=⟨h.blk.below hb h.blk.lt,h.size⟩
theorem StB.sz (h:StB w b cv sid):cv.size=23:=by have:=h.size;simpa using this
theorem StB.at_ (h:StB w b cv sid) {i:Nat} {v:Value} (hi:cv[i]?=some v):w.cell? ⟨b,i,none⟩=some v:=by
 have hl:i<cv.size:=by
  rcases Nat.lt_or_ge i cv.size with h2 | h2
  ·exact h2
  ·rw [Array.getElem?_eq_none h2] at hi;cases hi
 rw [h.blk.cell i,Array.getElem?_append_left hl,hi]
theorem StB.sid_ (h:StB w b cv sid):w.cell? ⟨b,23,none⟩=some (.string sid):=by
 rw [h.blk.cell 23,Array.getElem?_append_right (by rw [h.sz];exact Nat.le_refl _),h.sz];rfl
theorem StB.range (h:StB w b cv sid):w.rangeAt b 0 cv.toList:=fun j v hv=>by
 rw [Nat.zero_add]
 exact h.at_ (by simpa using hv)
theorem StB.all (h:StB w b cv sid):w.rangeAt b 0 (cv++#[Value.string sid]).toList:=rangeC (by rw [Array.toArray_toList];exact h.blk)
end
section
variable {w : World}
theorem CfP.few (c:CfP) (h:c.W w):Calls Tryz.prog 35 #[c.val] w (fun e w'=>e=.returned (.bool c.fw)∧Below w.heap.size w w'):=by
 obtain ⟨sv,ex,ge,sw,cm,us,A0,A1,A2,A3,A4,A5,A6,A7,A8,A9,A10,n0,n1,n2,n3,n4,n5,n6,n7,c0,c1,c2,c3,c4,c5,c6,c7,c8,c9,c10,al,own,lim,peer,q0,q1,q2,gr,ky,ls⟩:=c
 exact few25_any h.cw
end
def setupS:List Shp:=confS++[.s]
theorem oks_app {w:World}:∀(l m:List Shp) (us:List Value),Shp.oks w (l++m) us→∃u1 u2,us=u1++u2∧Shp.oks w l u1∧Shp.oks w m u2
 | [],m,us,h=>⟨[],us,rfl,trivial,h⟩
 | a :: l,m,us,h=>by
  obtain ⟨u,r,rfl,h1,h2⟩:=oks_consC (l:=l++m) h
  obtain ⟨u1,u2,rfl,h3,h4⟩:=oks_app l m r h2
  exact ⟨u :: u1,u2,rfl,⟨h1,h3⟩,h4⟩
theorem open_setup {w:World} {us:List Value} (h:Shp.oks w setupS us):∃(c:CfP) (sid:ByteArray),us=(c.cells++#[Value.string sid]).toList∧c.W w∧sid.size≤maxLen:=by
 obtain ⟨u1,u2,rfl,h1,h2⟩:=oks_app confS [.s] us h
 obtain ⟨c,rfl,hc⟩:=open_confP h1
 match u2,h2 with
 | [u],h2 =>
  simp only [Shp.oks,Shp.ok,and_true] at h2
  obtain ⟨s,rfl,hs⟩:=h2
  refine ⟨c,s,?_,hc,hs⟩
  simp
 | [],h2=>simp [Shp.oks] at h2
 | _ :: _ :: _,h2=>simp [Shp.oks] at h2
end Go.Proofs.YtnhekaepgpbijaaGreatDoor
