/- Several of my texts in one: AcP, AuM, AcM, AcF, AcS, AuA, AuJ, AcRf. -/
import Derived.Test.YtnhekaepgpbijaaGreatDoorJAuP
import Derived.Test.YtnhekaepgpbijaaGreatDoorJCfLcG
import Derived.Test.YtnhekaepgpbijaaGreatDoorJPayDG
import Derived.Test.YtnhekaepgpbijaaGreatDoorJCfKG
import Derived.Test.YtnhekaepgpbijaaGreatDoorJCfBG
set_option linter.unusedVariables false
set_option linter.unusedSimpArgs false
set_option maxHeartbeats 40000000
set_option maxRecDepth 100000
namespace Go.Proofs.YtnhekaepgpbijaaGreatDoor
open Go.RowKit
structure bS where
 ph:Nat
 told:Bool
 taken:List (List UInt8)
 tried:Nat
 alg:List UInt8
structure lh where
 out:List UInt8
 ev:Option (Int × Int × List UInt8)
 err:fP
def dm:List UInt8:=[97,117,116,104,99]
def kC:List UInt8:=[119,97,121,115]
def rY:List UInt8:=[115,105,103,110,97,116,117,114,101]
def Su:List UInt8:=[101,120,116]
def Mm:List UInt8:=[107,101,121]
def iU:List UInt8:=[115,101,114,118,101,114,45,115,105,103,45,97,108,103,115]
def zh:List UInt8:=[5,0,0,0,12,115,115,104,45,117,115,101,114,97,117,116,104]
theorem yh:encS 5 [⟨115,0,ib,[]⟩]=.ok zh:=by kernel_rfl
def jk (l m:List (List UInt8)):Option (List UInt8):=l.find? fun x=>decide (x∈m)
def eZ (s:bS) (ps:List (List UInt8)) (k:Int):bS × lh:=(s,⟨[],none,some (ps,k)⟩)
def Ci (r:bS × lh):bS × lh:=match r.2.err with
 | none=>r
 | some (ps,k)=>({ r.1 with ph:=5 },⟨[],none,some (dm :: ps,k)⟩)
def pK (num:Int) (l:List Fld) (s:bS) (ev:Option (Int × Int × List UInt8)):bS × lh:=match encS num l with
 | .ok b=>(s,⟨b,ev,none⟩)
 | r=>match ic num r with
  | some (ps,k)=>eZ s ps (k:Nat)
  | none=>(s,⟨[],none,none⟩)
def jr (al:List (List UInt8)) (s:bS):Option (List UInt8):=if s.told=true then jk al s.taken else al.head?
def bT (ky:List Int) (i:Nat):Int:=(ky[i]?).getD 0
noncomputable def fI (who:Int):List UInt8:=((gG (dW who)).bind mQ).getD []
def gQ (us alg pk:List UInt8) (k:Int):List Fld:=[⟨115,0,us,[]⟩,⟨115,0,bA,[]⟩,⟨115,0,dG,[]⟩,⟨98,k,[],[]⟩,⟨115,0,alg,[]⟩,⟨116,0,pk,[]⟩]
noncomputable def jM (us:List UInt8) (al:List (List UInt8)) (ky:List Int) (s:bS):bS × lh:=match jr al s with
 | none=>eZ s [kC] 12
 | some a=>if ky.length≤s.tried then eZ s [kC] 12
  else pK 50 (gQ us a (fI (bT ky s.tried)) 0) ⟨2,s.told,s.taken,s.tried+1,a⟩ none
noncomputable def kT (t:Tm):List UInt8:=(mQ t).getD []
noncomputable def rz (us:List UInt8) (ky:List Int) (sid:Option Tm) (s:bS):bS × lh:=match kW sid (bs us) (bs bA) (bs s.alg) (bT ky (s.tried - 1)) with
 | none=>eZ s [rY] 2
 | some t=>pK 50 (gQ us s.alg (fI (bT ky (s.tried - 1))) 1++[⟨116,0,kT t,[]⟩]) ⟨3,s.told,s.taken,s.tried,s.alg⟩ (some (3,bT ky (s.tried - 1),s.alg))
def jW:List (List UInt8)→Bool × List (List UInt8)→(Bool × List (List UInt8)) × Option Int
 | a :: b :: r,t=>if a=iU then (if (splitN b).1=0 then jW r (true,(splitN b).2) else (t,some (splitN b).1)) else jW r t
 | _,t=>(t,none)
def uS (l:List (List UInt8)) (s:bS):bS × lh:=match jW l (s.told,s.taken) with
 | (t,none)=>({ s with told:=t.1,taken:=t.2 },⟨[],none,none⟩)
 | (t,some k)=>eZ { s with told:=t.1,taken:=t.2 } [Su] k
def gF (num:Nat) (s:bS):Bool :=
 if num=7∨num=53 then decide (s.ph≠0)
 else if num=6 then decide (s.ph=1)
 else if num=60 then decide (s.ph=2)
 else if num=52 then decide (s.ph=3)
 else if num=51 then decide (s.ph=2∨s.ph=3)
 else false
noncomputable def Ap (us:List UInt8) (al:List (List UInt8)) (ky:List Int) (sid:Option Tm) (s:bS) (num:Nat) (l:List Fld):bS × lh :=
 if num=7 then uS (atF l 0).l s
 else if num=53 then (s,⟨[],none,none⟩)
 else if num=6 then (if (atF l 0).s≠ib then eZ s [Cq] 13 else jM us al ky s)
 else if num=51 then (if dG ∉ (atF l 0).l then eZ s [kC] 12 else jM us al ky s)
 else if num=52 then ({ s with ph:=4 },⟨[],some (5,bT ky (s.tried - 1),s.alg),none⟩)
 else if num=60 then (if (atF l 0).s≠s.alg∨(atF l 1).s≠fI (bT ky (s.tried - 1)) then eZ s [Mm] 12 else rz us ky sid s)
 else jM us al ky s
noncomputable def tkC (us:List UInt8) (al:List (List UInt8)) (ky:List Int) (sid:Option Tm) (s:bS) (p:List UInt8):bS × lh :=
 Ci <| if s.ph=0∨s.ph=5 then eZ s [] 7
 else match fq p with
  | .ok num l=>if gF num s=true then Ap us al ky sid s num l else eZ s [] 7
  | r=>match jU r with
   | some (ps,k)=>eZ s ps k
   | none=>eZ s [] 7
def Ex (s:bS):bS × lh:=if s.ph=0 then ({ s with ph:=1 },⟨zh,none,none⟩) else Ci (eZ s [] 7)
end Go.Proofs.YtnhekaepgpbijaaGreatDoor
namespace Go.Proofs.YtnhekaepgpbijaaGreatDoor
open Go.RowKit Go.ChangeShapes Go.WideShapes Go.Sort
def ym (lo hi:Nat) (S:Nat→Prop):Prop:=∀i,S i→i<lo∨hi≤i
theorem ym.no {lo hi:Nat} {S:Nat→Prop} (h:ym lo hi S) {b:Nat} (h1:lo≤b) (h2:b<hi):¬ S b:=fun h3=>by
 rcases h b h3 with h4 | h4 <;> omega
theorem ym.grown {lo hi:Nat} {S S':Nat→Prop} {w w':World} (h:ym lo hi S) (hG:Grown S w S' w') (hh:hi≤w.heap.size):ym lo hi S':=fun i h1=>by
 rcases hG.new i h1 with h2 | h2
 ·exact h i h2
 ·right
  omega
structure qc (w0:World) (B g lo hi bs_ bg:Nat) (A9:Option Addr) (c9:Nat) (gr:List (List UInt8 × Int)) (A8:Option Addr) (c8:Nat) (al:List (List UInt8)) (lim n:Int) (sid:Option Tm) (T:List Tm) (S:Nat→Prop) (s:SvS) (W:World):Prop where
 pay:Pay w0 B g T S W
 zone:ym lo hi S
 hiw:hi≤W.heap.size
 lo0:B≤lo
 los:lo≤bs_
 his:bs_<hi
 log:lo≤bg
 hig:bg<hi
 ne:bs_≠bg
 sb:Blk W bs_ 137 #[.pointer (some ⟨g,0,none⟩),.int .i64 n,.pointer (some ⟨bg,0,none⟩),.int .i64 s.ph]
 gb:Blk W bg 201 #[.slice A9 gr.length c9,.slice A8 al.length c8,.int .i64 lim,.int .i64 s.fl]
 r9:W.ownsRow lo 158 2 (.slice A9 gr.length c9) gr.length (jo gr)
 r8:W.ownsRow lo 9 1 (.slice A8 al.length c8) al.length ((bss al).map Value.string)
 h9:∀i,(Value.slice A9 gr.length c9).ownBlock=some i→i<hi
 h8:∀i,(Value.slice A8 al.length c8).ownBlock=some i→i<hi
 id:Idn T sid n
section
variable {w0 W W' : World} {B g lo hi bs_ bg : Nat} {A9 A8 : Option Addr} {c9 c8 : Nat} {gr : List (List UInt8 × Int)} {al : List (List UInt8)} {lim n : Int} {sid : Option Tm} {T T' : List Tm} {S S' : Nat → Prop} {s : SvS}
theorem qc.below (h:qc w0 B g lo hi bs_ bg A9 c9 gr A8 c8 al lim n sid T S s W) (hb:Below W.heap.size W W'):qc w0 B g lo hi bs_ bg A9 c9 gr A8 c8 al lim n sid T S s W' :=
 { h with pay:=h.pay.below hb,hiw:=Nat.le_trans h.hiw hb.size,sb:=h.sb.below hb h.sb.lt,gb:=h.gb.below hb h.gb.lt,r9:=h.r9.kept (ai hb none) (by cases (Value.slice A9 gr.length c9).ownBlock <;> simp),r8:=h.r8.kept (ai hb none) (by cases (Value.slice A8 al.length c8).ownBlock <;> simp) }
theorem qc.grown (h:qc w0 B g lo hi bs_ bg A9 c9 gr A8 c8 al lim n sid T S s W) (hG:Grown S W S' W') (hP:Pay w0 B g T' S' W') (hp:T <+: T'):qc w0 B g lo hi bs_ bg A9 c9 gr A8 c8 al lim n sid T' S' s W' :=
 { h with pay:=hP,zone:=h.zone.grown hG h.hiw,hiw:=Nat.le_trans h.hiw hG.size,sb:=hG.outs.blk h.sb (h.zone.no h.los h.his),gb:=hG.outs.blk h.gb (h.zone.no h.log h.hig),r9:=hG.outs.own h.r9 (fun i hi=>h.zone.no (h.r9.lt i hi).1 (h.h9 i hi)),r8:=hG.outs.own h.r8 (fun i hi=>h.zone.no (h.r8.lt i hi).1 (h.h8 i hi)),id:=h.id.pre hp }
theorem qc.row (h:qc w0 B g lo hi bs_ bg A9 c9 gr A8 c8 al lim n sid T S s W) {b:Nat} (k:W.grownBy W' (some b)) (hn:¬ S b) (hB:B≤b) (hb:hi≤b):qc w0 B g lo hi bs_ bg A9 c9 gr A8 c8 al lim n sid T S s W' :=
 { h with pay:=h.pay.kept k hn hB,hiw:=Nat.le_trans h.hiw k.size,sb:=h.sb.grown k (fun e=>by have:=Option.some.inj e;have:=h.his;omega),gb:=h.gb.grown k (fun e=>by have:=Option.some.inj e;have:=h.hig;omega),r9:=h.r9.kept k (.inr (fun e=>by have:=h.h9 _ e;omega)),r8:=h.r8.kept k (.inr (fun e=>by have:=h.h8 _ e;omega)) }
theorem uy {W:World} {b g size k:Nat} {e t:TypeId} {v:Value} {xs:List Value} {cs:Array Value} (h:W.ownsRow b e size v k xs) (hb:Blk W g t cs) (hne:e≠t) (c:Nat) (u:Value):(W.setCell ⟨g,c,none⟩ u).ownsRow b e size v k xs :=
 h.kept (ag (aj W (some g)) (.inl rfl) u) (.inr (aS h hb hne))
end
def SB (b1 b2:Nat) (S:Nat→Prop) (i:Nat):Prop:=S i∨i=b1∨i=b2
section
variable {w w' : World} {S S' : Nat → Prop} {b1 b2 : Nat}
theorem Grown.sb (h:Grown S w S' w') (b1 b2:Nat):Grown (SB b1 b2 S) w (SB b1 b2 S') w' :=
 ⟨h.os,h.tape,h.output,h.size,fun i hi hn=>h.block i hi (fun h2=>hn (.inl h2)),fun i hi=>hi.imp (h.sub i) id,fun i hi=>by
  rcases hi with hi | hi
  ·exact (h.new i hi).imp .inl id
  ·exact .inl (.inr hi)⟩
theorem RY (h:w.grownBy w' (some b1)):Grown (SB b1 b2 S) w (SB b1 b2 S) w' :=
 ⟨h.os,h.tape,h.output,h.size,fun i hi hn=>h.block i hi (fun e=>hn (.inr (.inl (Option.some.inj e)))),fun _ h=>h,fun _ h=>.inl h⟩
def ErV (w:World) (o:Option (List (List UInt8) × Int)) (v:Value):Prop:=match o with
 | none=>v=.nilIface
 | some (ps,k)=>aT w v ps k
end
def nN (lo hi:Nat) (w:World) (v:Value) (l:List (List UInt8)):Prop:=∀V:World,hi≤V.heap.size→(∀p:Addr,lo≤p.block→p.block<hi→V.cell? p=w.cell? p)→Txs V v l
def Df (lo hi:Nat) (w:World) (A:Option Addr) (l:List Int):Prop:=∀V:World,hi≤V.heap.size→(∀p:Addr,lo≤p.block→p.block<hi→V.cell? p=w.cell? p)→Sl 0 V 1 A l.length (l.map (Value.int .i64))
section
variable {lo hi : Nat} {w w' : World} {v : Value} {l : List (List UInt8)} {A : Option Addr} {k : List Int}
theorem nN.mk (h:Sl lo w 1 A l.length ((l.map bs).map Value.string)) {c:Nat} (hh:w.heap.size≤hi) (hk:∀p:Addr,lo≤p.block→p.block<w.heap.size→w'.cell? p=w.cell? p):nN lo hi w' (.slice A l.length c) l:=fun V hV hp=>by
 have h2:=(h.keep (w':=V) (Nat.le_trans hh hV) (fun p h1 h2=>(hp p h1 (Nat.lt_of_lt_of_le h2 hh)).trans (hk p h1 h2))).mono (Nat.zero_le _);exact ⟨A,c,by simp,by simpa using h2⟩
theorem nN.step (h:nN lo hi w v l) (hk:∀p:Addr,lo≤p.block→p.block<hi→w'.cell? p=w.cell? p):nN lo hi w' v l:=fun V hV hp=>h V hV fun p h1 h2=>(hp p h1 h2).trans (hk p h1 h2)
theorem nN.txs (h:nN lo hi w v l) (hh:hi≤w.heap.size):Txs w v l:=h w hh fun _ _ _=>rfl
theorem Df.mk (h:Sl lo w 1 A k.length (k.map (Value.int .i64))) (hh:w.heap.size≤hi) (hk:∀p:Addr,lo≤p.block→p.block<w.heap.size→w'.cell? p=w.cell? p):Df lo hi w' A k:=fun V hV hp =>
 (h.keep (w':=V) (Nat.le_trans hh hV) (fun p h1 h2=>(hp p h1 (Nat.lt_of_lt_of_le h2 hh)).trans (hk p h1 h2))).mono (Nat.zero_le _)
theorem Df.step (h:Df lo hi w A k) (hk:∀p:Addr,lo≤p.block→p.block<hi→w'.cell? p=w.cell? p):Df lo hi w' A k:=fun V hV hp=>h V hV fun p h1 h2=>(hp p h1 h2).trans (hk p h1 h2)
end
structure CBk (w:World) (b:Nat) (P Q:Array Value):Prop where
 blk:Blk w b 121 (P++Q)
 sz:P.size=24
section
variable {w w' : World} {b : Nat} {P Q : Array Value}
theorem CBk.lo (h:CBk w b P Q) {i:Nat} {v:Value} (hi:P[i]?=some v):w.cell? ⟨b,i,none⟩=some v:=by
 have hl:i<P.size:=by
  rcases Nat.lt_or_ge i P.size with h2 | h2
  ·exact h2
  ·rw [Array.getElem?_eq_none h2] at hi;cases hi
 rw [h.blk.cell i,Array.getElem?_append_left hl,hi]
theorem CBk.hi (h:CBk w b P Q) {j:Nat} {v:Value} (hj:Q[j]?=some v):w.cell? ⟨b,24+j,none⟩=some v:=by
 rw [h.blk.cell (24+j),Array.getElem?_append_right (by rw [h.sz];omega),h.sz,Nat.add_sub_cancel_left,hj]
theorem CBk.frz (h:CBk w b P Q) (i:Nat):w.frozen? ⟨b,i,none⟩=false:=h.blk.frozen i
theorem CBk.set_ (h:CBk w b P Q) (j:Nat) (v:Value):CBk (w.setCell ⟨b,24+j,none⟩ v) b P (Q.setIfInBounds j v):=⟨by
 have h2:=h.blk.set_ (24+j) v
 rwa [show (P++Q).setIfInBounds (24+j) v=P++Q.setIfInBounds j v from by
  rw [Array.setIfInBounds_append,if_neg (by have:=h.sz;omega),h.sz,Nat.add_sub_cancel_left]] at h2,h.sz⟩
theorem CBk.below (h:CBk w b P Q) (hb:Below w.heap.size w w'):CBk w' b P Q:=⟨h.blk.below hb h.blk.lt,h.sz⟩
end
structure ClQ where
 w0:World
 B:Nat
 g:Nat
 lo:Nat
 b:Nat
 P:Array Value
 A8:Option Addr
 c8:Nat
 al:List (List UInt8)
 A10:Option Addr
 c10:Nat
 ky:List Int
 us:List UInt8
 n:Int
 sid:Option Tm
structure ClQ.Ok (q:ClQ):Prop where
 p0:q.P[0]?=some (.pointer (some ⟨q.g,0,none⟩))
 p12:q.P[12]?=some (.slice q.A8 q.al.length q.c8)
 p17:q.P[17]?=some (.string (bs q.us))
 p18:q.P[18]?=some (.slice q.A10 q.ky.length q.c10)
 al1:1≤q.al.length
 al2:q.al.length≤1000
 ky2:q.ky.length≤1000
 us2:q.us.length≤1000
 aly:∀a∈q.al,a.length≤1000
 sidz:∀u,q.sid=some u→(enc u).length≤1000
def Cu (n:Int) (s:bS) (A:Option Addr) (c:Nat):Array Value:=#[.int .i64 n,.int .i64 (s.ph:Nat),.bool s.told,.slice A s.taken.length c,.int .i64 (s.tried:Nat),.string (bs s.alg)]
structure TkP where
 A:Option Addr
 c:Nat
 lo:Nat
 hi:Nat
structure aI (q:ClQ) (T:List Tm) (S:Nat→Prop) (s:bS) (z:TkP) (W:World):Prop where
 ok:q.Ok
 pay:Pay q.w0 q.B q.g T S W
 zone:ym q.lo (q.b+1) S
 lo0:q.B≤q.lo
 lob:q.lo≤q.b
 cb:CBk W q.b q.P (Cu q.n s z.A z.c)
 ral:nN q.lo q.b W (.slice q.A8 q.al.length q.c8) q.al
 rky:Df q.lo q.b W q.A10 q.ky
 tk:q.b<z.lo∧z.lo≤z.hi∧z.hi≤W.heap.size∧ym z.lo z.hi S∧nN z.lo z.hi W (.slice z.A s.taken.length z.c) s.taken
 id:Idn T q.sid q.n
 tkl:s.taken.length≤1000
 try_:s.tried≤q.ky.length
 alz:s.alg.length≤1000
section
variable {q : ClQ} {T T' : List Tm} {S S' : Nat → Prop} {s : bS} {z : TkP} {W W' : World}
theorem aI.blt (h:aI q T S s z W):q.b<W.heap.size:=h.cb.blk.lt
theorem aI.below (h:aI q T S s z W) (hb:Below W.heap.size W W'):aI q T S s z W':=by
 have hlt:=h.blt;obtain ⟨h1,h2,h3,h4,h5⟩:=h.tk;exact { h with pay:=h.pay.below hb,cb:=h.cb.below hb,ral:=h.ral.step fun p _ h9=>hb.cell (by omega),rky:=h.rky.step fun p _ h9=>hb.cell (by omega),tk:=⟨h1,h2,Nat.le_trans h3 hb.size,h4,h5.step fun p _ h9=>hb.cell (by omega)⟩ }
theorem aI.grown (h:aI q T S s z W) (hG:Grown S W S' W') (hP:Pay q.w0 q.B q.g T' S' W') (hp:T <+: T'):aI q T' S' s z W':=by
 have hlt:=h.blt;obtain ⟨h1,h2,h3,h4,h5⟩:=h.tk;have hc:∀p:Addr,¬ S p.block→p.block<W.heap.size→W'.cell? p=W.cell? p:=fun p h8 h9=>World.cell?_of_block (hG.block p.block h9 h8)
 exact { h with pay:=hP,zone:=h.zone.grown hG (by omega),cb:=⟨hG.outs.blk h.cb.blk (h.zone.no h.lob (by omega)),h.cb.sz⟩,ral:=h.ral.step fun p h8 h9=>hc p (h.zone.no h8 (by omega)) (by omega),rky:=h.rky.step fun p h8 h9=>hc p (h.zone.no h8 (by omega)) (by omega),tk:=⟨h1,h2,Nat.le_trans h3 hG.size,h4.grown hG h3,h5.step fun p h8 h9=>hc p (h4.no h8 h9) (by omega)⟩,id:=h.id.pre hp }
theorem aI.set_ (h:aI q T S s z W) {s':bS} {z':TkP} (hW:∀p:Addr,p.block≠q.b→W'.cell? p=W.cell? p) (k:W.grownBy W' (some q.b)) (hB:CBk W' q.b q.P (Cu q.n s' z'.A z'.c))
  (ht:q.b<z'.lo∧z'.lo≤z'.hi∧z'.hi≤W.heap.size∧ym z'.lo z'.hi S∧nN z'.lo z'.hi W (.slice z'.A s'.taken.length z'.c) s'.taken) (h1:s'.taken.length≤1000) (h2:s'.tried≤q.ky.length) (h3:s'.alg.length≤1000):aI q T S s' z' W':=by
 have hlt:=h.blt;obtain ⟨g1,g2,g3,g4,g5⟩:=ht;exact { h with pay:=h.pay.kept k (h.zone.no h.lob (by omega)) (Nat.le_trans h.lo0 h.lob),cb:=hB,ral:=h.ral.step fun p _ h9=>hW p (by omega),rky:=h.rky.step fun p _ h9=>hW p (by omega),tk:=⟨g1,g2,Nat.le_trans g3 k.size,g4,g5.step fun p h8 _=>hW p (by omega)⟩,tkl:=h1,try_:=h2,alz:=h3 }
theorem aI.row (h:aI q T S s z W) {r:Nat} (k:W.grownBy W' (some r)) (hn:¬ S r) (hB:q.B≤r) (hb:q.b<r) (hk:z.hi≤r):aI q T S s z W':=by
 have hlt:=h.blt;obtain ⟨h1,h2,h3,h4,h5⟩:=h.tk;have hc:∀p:Addr,p.block≠r→p.block<W.heap.size→W'.cell? p=W.cell? p:=fun p h8 h9=>World.cell?_of_block (k.block p.block h9 (fun e=>h8 (Option.some.inj e)))
 exact { h with pay:=h.pay.kept k hn hB,cb:=⟨h.cb.blk.grown k (fun e=>by have:=Option.some.inj e;omega),h.cb.sz⟩,ral:=h.ral.step fun p _ h9=>hc p (by omega) (by omega),rky:=h.rky.step fun p _ h9=>hc p (by omega) (by omega),tk:=⟨h1,h2,Nat.le_trans h3 k.size,h4,h5.step fun p h8 h9=>hc p (by omega) (by omega)⟩ }
end
theorem Bt {l m:List (List UInt8)} {k:Nat} (hk:k<l.length) (h:∀x∈l.take k,x ∉ m) (hm:l[k]∈m):jk l m=some l[k]:=by
 have e:l=l.take k++(l[k] :: l.drop (k+1)):=by rw [←List.drop_eq_getElem_cons hk,List.take_append_drop]
 have h1:(l.take k).find? (fun x=>decide (x∈m))=none:=List.find?_eq_none.2 fun x hx=>by rw [decide_eq_false (h x hx)];decide
 have h0:∀(y:List UInt8) (r:List (List UInt8)),y∈m→(y :: r).find? (fun x=>decide (x∈m))=some y:=fun y r hy=>by rw [List.find?_cons,decide_eq_true hy]
 have h2:=h0 l[k] (l.drop (k+1)) hm;show l.find? (fun x=>decide (x∈m))=some l[k];generalize l[k]=y at e h2 ⊢;rw [e,List.find?_append,h1,h2];rfl
theorem Bv {l m:List (List UInt8)} (h:∀x∈l,x ∉ m):jk l m=none:=List.find?_eq_none.2 fun x hx=>by rw [decide_eq_false (h x hx)];decide
def zm (o:Option (List UInt8)) (w:World) (e:Ending) (w':World):Prop:=e=.returned (.tuple #[.string (bs (o.getD [])),.bool o.isSome])∧w'=w
section
variable {w : World} {A : Option Addr} {c : Nat} {ls : List (List UInt8)}
theorem zO {B:Option Addr} {d:Nat} {ms:List (List UInt8)} (h:Txs w (.slice A ls.length c) ls) (hll:ls.length≤1000000) (h2:Txs w (.slice B ms.length d) ms) (hml:ms.length≤9223372036854775807) :
  Calls Tryz.prog 270 #[.slice A ls.length c,.slice B ms.length d] w (zm (jk ls ms) w):=by
 have HH:=hide (fun s=>pg h2 hml s);obtain ⟨A',c',hv,hA⟩:=h.open_;obtain ⟨rfl,rfl⟩:A'=A∧c'=c:=by injection hv with e1 _ e2;exact ⟨e1.symm,e2.symm⟩
 clear hv h h2;generalize hz:jk ls ms=z;have Hz:=hide hz;clear hz;go_enter Tryz.func270,Tryz.ntmps270;go_wp2_with fail
 go_loop [10] (fun i=>∃k:Nat,k≤ls.length∧i=.int .i64 k∧Hid (∀x∈ls.take k,x ∉ ms)) (fun i=>ls.length - (intOf i).toNat)
 case atStart=>exact ⟨0,Nat.zero_le _,rfl,hide (by simp)⟩
 case round =>
  obtain ⟨k,hk,rfl,H⟩:=hrel
  by_cases hlt:k<ls.length
  ·have hkI:(k:Int)<ls.length:=by omega
   obtain ⟨ad,rfl,had,hc⟩:=hA k hlt;have HC:=hide (HH.out ls[k])
   by_cases he:ls[k]∈ms
   ·rw [decide_eq_true he] at HC
    have HY:=hide (show z=some ls[k] from by rw [←Hz.out];exact Bt hlt H.out he);clear he H hA HH;go_wp2_with (first | (go_at_call 129;refine HC.out.mono ?_;rintro e w1 ⟨rfl,rfl⟩) | fail);go_ret2;rw [HY.out];exact ⟨rfl,rfl⟩
   ·rw [decide_eq_false he] at HC
    have HN:=hide (show ∀x∈ls.take (k+1),x ∉ ms from by
     intro x hx;rw [List.take_succ_eq_append_getElem hlt] at hx;rcases List.mem_append.1 hx with hx | hx
     ·exact H.out x hx
     ·simp only [List.mem_singleton] at hx
      subst hx
      exact he)
    clear he H hA HH;go_wp2_with (first | (go_at_call 129;refine HC.out.mono ?_;rintro e w1 ⟨rfl,rfl⟩) | fail);go_round
    case rel=>exact ⟨k+1,hlt,by go_num,HN⟩
    case measure=>simp [intOf];omega
  ·have hkI:¬ (k:Int)<ls.length:=by omega
   have HN:=hide (show z=none from by
    rw [←Hz.out]
    exact Bv fun x hx=>H.out x (by rw [List.take_of_length_le (by omega)];exact hx))
   clear H hA HH;go_wp2_with fail;go_ret2;rw [HN.out];exact ⟨rfl,rfl⟩
end
end Go.Proofs.YtnhekaepgpbijaaGreatDoor
namespace Go.Proofs.YtnhekaepgpbijaaGreatDoor
open Go.RowKit
theorem LW {o:Option Tm} (h:jN o):((o.bind mQ).getD []).length≤200000:=by
 cases o with
 | none=>exact Nat.zero_le _
 | some t =>
  have h2:=h t rfl;show ((mQ t).getD []).length≤_;unfold mQ
  split
  ·split
   ·exact Nat.zero_le _
   ·have h3:=Sq h2
    show t.s.data.toList.length≤_;rw [aD];omega
  ·show (enc t).length≤_
   have:=h2.2;omega
theorem Kz (who:Int):(fI who).length≤200000:=LW (wP (qK who))
theorem Nr {who:Int} (h:okN who=true):dW who=some (.mk 3 who.toNat 0 eB []):=if_pos h
theorem Py {who:Int} (h:okN who=true):∃p,gG (dW who)=some p∧mQ p=some (fI who)∧ofT (fI who)=some p∧Ti (some p)=true∧(Um (some p):Int)=who:=by
 have hk:=Nr h;have hp:gG (dW who)=some (.mk 4 0 0 eB [.mk 3 who.toNat 0 eB []]):=by rw [hk];rfl
 refine ⟨_,hp,?_,?_,rfl,?_⟩
 ·unfold fI
  rw [hp];rfl
 ·have hf:=wP (qK who) _ hp
  have e:fI who=enc (.mk 4 0 0 eB [.mk 3 who.toNat 0 eB []]):=by
   unfold fI;rw [hp];rfl
  rw [e];exact Rz hf.1 (show (4:Nat)≠1 by decide)
 ·show ((who.toNat:Nat):Int)=who
  unfold okN at h;simp only [Bool.and_eq_true,decide_eq_true_eq] at h;omega
structure UC (us:List UInt8) (ky:List Int) (sid:Option Tm) (s s':bS) (o:lh):Prop where
 ph:s.ph=2
 ph':s'.ph=3
 tr:s'.tried=s.tried
 ev:o.ev=some (3,bT ky (s'.tried - 1),s'.alg)
 err:o.err=none
 dec:∃t,kW sid (bs us) (bs bA) (bs s'.alg) (bT ky (s'.tried - 1))=some t∧fq o.out=.ok 50 (gQ us s'.alg (fI (bT ky (s'.tried - 1))) 1++[⟨116,0,kT t,[]⟩])
structure Lx (k:Nat) (s s':bS):Prop where
 le:s.tried≤s'.tried
 lk:s.tried≤k→s'.tried≤k
 p2:s'.ph=2→s'.tried=s.tried+1∨(s.ph=2∧s'.tried=s.tried)
 p3:s'.ph=3→(s.ph=2∨s.ph=3)∧s'.tried=s.tried
section
variable {us : List UInt8} {al : List (List UInt8)} {ky : List Int} {sid : Option Tm} {s : bS}
theorem Lx.refl (s:bS) (k:Nat):Lx k s s:=⟨Nat.le_refl _,id,fun h=>.inr ⟨h,rfl⟩,fun h=>⟨.inr h,rfl⟩⟩
theorem Lx.fail {s s':bS} {k:Nat} (h:Lx k s s'):Lx k s { s' with ph:=5 }:=⟨h.le,h.lk,fun h9=>(by cases h9),fun h9=>(by cases h9)⟩
theorem OZ {alg pk:List UInt8} {k:Int} (h1:us.length≤1000) (h2:alg.length≤1000) (h3:pk.length≤200000):∀x∈gQ us alg pk k,Dx x:=by
 intro x hx;simp only [gQ,List.mem_cons,List.not_mem_nil,or_false] at hx;rcases hx with rfl | rfl | rfl | rfl | rfl | rfl
 ·exact ⟨by show us.length<_;omega,by simp⟩
 ·exact ⟨by decide,by simp⟩
 ·exact ⟨by decide,by simp⟩
 ·exact ⟨by simp,by simp⟩
 ·exact ⟨by show alg.length<_;omega,by simp⟩
 ·exact ⟨by show pk.length<_;omega,by simp⟩
theorem rH (ha:∀a∈al,a.length≤1000) {a:List UInt8} (h:jr al s=some a):a.length≤1000:=by
 unfold jr at h
 split at h
 ·exact ha a (List.mem_of_find?_eq_some h)
 ·exact ha a (List.mem_of_head? h)
structure SgI (k:Nat) (s:bS) (g:Nat):Prop where
 le:g≤s.tried
 lk:s.tried≤k
 p2:s.ph=2→g<s.tried
end
end Go.Proofs.YtnhekaepgpbijaaGreatDoor
namespace Go.Proofs.YtnhekaepgpbijaaGreatDoor
open Go.RowKit Go.ChangeShapes Go.WideShapes Go.Sort
structure CfP.W (c:CfP) (w:World):Prop where
 cw:CfW w c.sw c.cm c.us [.slice c.A0 c.n0 c.c0,.slice c.A1 c.n1 c.c1,.slice c.A2 c.n2 c.c2,.slice c.A3 c.n3 c.c3,.slice c.A4 c.n4 c.c4,.slice c.A5 c.n5 c.c5,.slice c.A6 c.n6 c.c6,.slice c.A7 c.n7 c.c7] c.ls c.A8 c.c8 c.al c.A9 c.gr c.A10 c.ky
 u0:IntKind.i64.wrap c.q0=c.q0
 u1:IntKind.i64.wrap c.q1=c.q1
 u2:IntKind.i64.wrap c.q2=c.q2
def CfP.fw (c:CfP):Bool:=iH c.sw c.cm c.us c.ls c.al c.gr c.ky
theorem CfP.W.below {c:CfP} {w w':World} (h:c.W w) (hb:Below w.heap.size w w'):c.W w':=⟨CfW.below h.cw hb,h.u0,h.u1,h.u2⟩
theorem CfP.W.m {c:CfP} {w:World} (h:c.W w) (hf:c.fw=true):c.M w:=CfW.few h.cw hf
theorem CY {w:World} {us0:List Value} (h:Shp.oks w Ac us0):∃c:CfP,us0=c.cells.toList∧c.W w:=by
 obtain ⟨sv,ex,ge,sw,cm,us,own,lim,peer,q0,q1,q2,A0,n0,c0,A1,n1,c1,A2,n2,c2,A3,n3,c3,A4,n4,c4,A5,n5,c5,A6,n6,c6,A7,n7,c7,A8,c8,A9,c9,A10,c10,ls,al,gr,ky,rfl,hC,u0,u1,u2⟩:=JA h;exact ⟨⟨sv,ex,ge,sw,cm,us,A0,A1,A2,A3,A4,A5,A6,A7,A8,A9,A10,n0,n1,n2,n3,n4,n5,n6,n7,c0,c1,c2,c3,c4,c5,c6,c7,c8,c9,c10,al,own,lim,peer,q0,q1,q2,gr,ky,ls⟩,rfl,hC,u0,u1,u2⟩
structure CvP (c:CfP) (cv:Array Value):Prop where
 val:c.val=.agg cv
 len:cv.toList.length=23
 one:cv.all (·.oneCell')=true
 p0:cv[0]?=some (.bool c.sv)
 p11:cv[11]?=some (.slice c.A8 c.al.length c.c8)
 p13:cv[13]?=some (.slice c.A9 c.gr.length c.c9)
 p14:cv[14]?=some (.int .i64 c.lim)
theorem Bi (c:CfP):∃cv:Array Value,c.cells=cv∧CvP c cv:=by
 refine ⟨_,rfl,rfl,rfl,?_,rfl,rfl,rfl,rfl⟩;unfold CfP.cells;simp [Value.oneCell']
structure StB (w:World) (b:Nat) (cv:Array Value) (sid:ByteArray):Prop where
 blk:Blk w b 73 (cv++#[Value.string sid])
 size:cv.toList.length=23
section
variable {w w' : World} {b : Nat} {cv : Array Value} {sid : ByteArray}
theorem StB.below (h:StB w b cv sid) (hb:Below w.heap.size w w'):StB w' b cv sid:=⟨h.blk.below hb h.blk.lt,h.size⟩
theorem StB.sz (h:StB w b cv sid):cv.size=23:=by have:=h.size;simpa using this
theorem StB.at_ (h:StB w b cv sid) {i:Nat} {v:Value} (hi:cv[i]?=some v):w.cell? ⟨b,i,none⟩=some v:=by
 have hl:i<cv.size:=by
  rcases Nat.lt_or_ge i cv.size with h2 | h2
  ·exact h2
  ·rw [Array.getElem?_eq_none h2] at hi;cases hi
 rw [h.blk.cell i,Array.getElem?_append_left hl,hi]
theorem StB.sid_ (h:StB w b cv sid):w.cell? ⟨b,23,none⟩=some (.string sid):=by
 rw [h.blk.cell 23,Array.getElem?_append_right (by rw [h.sz];exact Nat.le_refl _),h.sz];rfl
theorem StB.range (h:StB w b cv sid):w.rangeAt b 0 cv.toList:=fun j v hv=>by
 rw [Nat.zero_add];exact h.at_ (by simpa using hv)
theorem StB.all (h:StB w b cv sid):w.rangeAt b 0 (cv++#[Value.string sid]).toList:=yI (by rw [Array.toArray_toList];exact h.blk)
end
section
variable {w : World}
theorem CfP.few (c:CfP) (h:c.W w):Calls Tryz.prog 35 #[c.val] w (fun e w'=>e=.returned (.bool c.fw)∧Below w.heap.size w w'):=by
 obtain ⟨sv,ex,ge,sw,cm,us,A0,A1,A2,A3,A4,A5,A6,A7,A8,A9,A10,n0,n1,n2,n3,n4,n5,n6,n7,c0,c1,c2,c3,c4,c5,c6,c7,c8,c9,c10,al,own,lim,peer,q0,q1,q2,gr,ky,ls⟩:=c;exact Ke h.cw
end
def Lj:List Shp:=Ac++[.s]
theorem Fv {w:World}:∀(l m:List Shp) (us:List Value),Shp.oks w (l++m) us→∃u1 u2,us=u1++u2∧Shp.oks w l u1∧Shp.oks w m u2
 | [],m,us,h=>⟨[],us,rfl,trivial,h⟩
 | a :: l,m,us,h=>by
  obtain ⟨u,r,rfl,h1,h2⟩:=aP (l:=l++m) h;obtain ⟨u1,u2,rfl,h3,h4⟩:=Fv l m r h2;exact ⟨u :: u1,u2,rfl,⟨h1,h3⟩,h4⟩
theorem Dc {w:World} {us:List Value} (h:Shp.oks w Lj us):∃(c:CfP) (sid:ByteArray),us=(c.cells++#[Value.string sid]).toList∧c.W w∧sid.size≤maxLen:=by
 obtain ⟨u1,u2,rfl,h1,h2⟩:=Fv Ac [.s] us h;obtain ⟨c,rfl,hc⟩:=CY h1
 match u2,h2 with
 | [u],h2 =>
  simp only [Shp.oks,Shp.ok,and_true] at h2;obtain ⟨s,rfl,hs⟩:=h2;refine ⟨c,s,?_,hc,hs⟩;simp
 | [],h2=>simp [Shp.oks] at h2
 | _ :: _ :: _,h2=>simp [Shp.oks] at h2
theorem JC {w:World} {v:Value} (h:Shp.ok w (.sl [.s]) v):∃ls:List (List UInt8),∃A c,v=.slice A ls.length c∧Txs w (.slice A ls.length c) ls∧ls.length≤maxLen∧∀x∈ls,x.length≤maxLen:=by
 obtain ⟨ls,h1,h2,h3⟩:=Kh h;obtain ⟨h4,A,c,e,_⟩:=id h1;subst e;exact ⟨ls,A,c,rfl,h4,h2,h3⟩
section
variable {w : World} {A : Option Addr} {c : Nat} {ls : List (List UInt8)}
theorem yT {B:Option Addr} {d:Nat} {ms:List (List UInt8)} (h:Txs w (.slice A ls.length c) ls) (hll:ls.length≤1000000) (h2:Txs w (.slice B ms.length d) ms) (hml:ms.length≤9223372036854775807) :
  Calls Tryz.prog 31 #[.slice A ls.length c,.slice B ms.length d] w (zm (jk ls ms) w):=by
 have HH:=hide (fun s=>sO h2 hml s);obtain ⟨A',c',hv,hA⟩:=h.open_;obtain ⟨rfl,rfl⟩:A'=A∧c'=c:=by injection hv with e1 _ e2;exact ⟨e1.symm,e2.symm⟩
 clear hv h h2;generalize hz:jk ls ms=z;have Hz:=hide hz;clear hz;go_enter Tryz.func31,Tryz.ntmps31;go_wp2_with fail
 go_loop [6] (fun i=>∃k:Nat,k≤ls.length∧i=.int .i64 k∧Hid (∀x∈ls.take k,x ∉ ms)) (fun i=>ls.length - (intOf i).toNat)
 case atStart=>exact ⟨0,Nat.zero_le _,rfl,hide (by simp)⟩
 case round =>
  obtain ⟨k,hk,rfl,H⟩:=hrel
  by_cases hlt:k<ls.length
  ·have hkI:(k:Int)<ls.length:=by omega
   obtain ⟨ad,rfl,had,hc⟩:=hA k hlt;have HC:=hide (HH.out ls[k])
   by_cases he:ls[k]∈ms
   ·rw [decide_eq_true he] at HC
    have HY:=hide (show z=some ls[k] from by rw [←Hz.out];exact Bt hlt H.out he);clear he H hA HH;go_wp2_with (first | (go_at_call 78;refine HC.out.mono ?_;rintro e w1 ⟨rfl,rfl⟩) | fail);go_ret2;rw [HY.out];exact ⟨rfl,rfl⟩
   ·rw [decide_eq_false he] at HC
    have HN:=hide (show ∀x∈ls.take (k+1),x ∉ ms from by
     intro x hx;rw [List.take_succ_eq_append_getElem hlt] at hx;rcases List.mem_append.1 hx with hx | hx
     ·exact H.out x hx
     ·simp only [List.mem_singleton] at hx
      subst hx
      exact he)
    clear he H hA HH;go_wp2_with (first | (go_at_call 78;refine HC.out.mono ?_;rintro e w1 ⟨rfl,rfl⟩) | fail);go_round
    case rel=>exact ⟨k+1,hlt,by go_num,HN⟩
    case measure=>simp [intOf];omega
  ·have hkI:¬ (k:Int)<ls.length:=by omega
   have HN:=hide (show z=none from by
    rw [←Hz.out]
    exact Bv fun x hx=>H.out x (by rw [List.take_of_length_le (by omega)];exact hx))
   clear H hA HH;go_wp2_with fail;go_ret2;rw [HN.out];exact ⟨rfl,rfl⟩
end
end Go.Proofs.YtnhekaepgpbijaaGreatDoor
