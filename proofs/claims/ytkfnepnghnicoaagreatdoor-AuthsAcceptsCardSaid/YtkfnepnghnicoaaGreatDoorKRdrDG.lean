/-
  Several of my texts in one: MakesD, Fault, Fr, Sign, RdrS, RdrB, RdrC, RdrD, SignR, DatA.
-/
import Derived.Test.YtkfnepnghnicoaaGreatDoorKWholeAG
import Derived.Test.YtkfnepnghnicoaaGreatDoorKRdrG
import Derived.Test.YtkfnepnghnicoaaGreatDoorKAsG
set_option linter.unusedVariables false
set_option linter.unusedSimpArgs false
set_option maxHeartbeats 40000000
set_option maxRecDepth 100000
namespace Go.Proofs.YtkfnepnghnicoaaGreatDoor
open Go.RowKit Go.ChangeShapes Go.WideShapes Go.Sort
def Idns (T:List Tm) (ms:List (Option Tm)) (ns:List Int):Prop:=ns.length=ms.length∧∀(i:Nat) (o:Option Tm) (n:Int),ms[i]?=some o→ns[i]?=some n→Idn T o n
theorem idns_nil (T:List Tm):Idns T [] []:=⟨rfl,fun i o n h=>by simp at h⟩
theorem Idns.pre {T T':List Tm} {ms:List (Option Tm)} {ns:List Int} (h:Idns T ms ns) (hp:T <+: T'):Idns T' ms ns:=⟨h.1,fun i o n h1 h2=>(h.2 i o n h1 h2).pre hp⟩
theorem Idns.snoc {T:List Tm} {ms:List (Option Tm)} {ns:List Int} {o:Option Tm} {n:Int} (h:Idns T ms ns) (hn:Idn T o n):Idns T (ms++[o]) (ns++[n]):=by
 refine ⟨by simp [h.1],fun i o' n' h1 h2=>?_⟩
 rcases Nat.lt_or_ge i ms.length with hlt | hge
 ·rw [List.getElem?_append_left hlt] at h1
  rw [List.getElem?_append_left (by rw [h.1];exact hlt)] at h2
  exact h.2 i o' n' h1 h2
 ·have h3:=(List.getElem?_eq_some_iff.1 h1).1
  simp only [List.length_append,List.length_cons,List.length_nil] at h3
  obtain rfl:i=ms.length:=by omega
  rw [List.getElem?_append_right (Nat.le_refl _),Nat.sub_self] at h1
  rw [←h.1,List.getElem?_append_right (Nat.le_refl _),Nat.sub_self] at h2
  simp only [List.getElem?_cons_zero,Option.some.injEq] at h1 h2
  subst h1 h2
  exact hn
theorem Idns.args {T:List Tm} {ms:List (Option Tm)} {ns:List Int} (h:Idns T ms ns):ns.map (arg T)=ms:=by
 refine List.ext_getElem? fun i=>?_
 rw [List.getElem?_map]
 by_cases hi:i<ms.length
 ·have h1:=List.getElem?_eq_getElem hi
  have h2:=List.getElem?_eq_getElem (l:=ns) (i:=i) (by rw [h.1];exact hi)
  rw [h1,h2]
  show some _=_
  rw [(h.2 i _ _ h1 h2).1]
 ·rw [List.getElem?_eq_none (l:=ns) (by rw [h.1];omega),List.getElem?_eq_none (by omega)]
  rfl
theorem infoIDr:(Tryz.prog.info? 38).map (fun i=>(i.zero,i.size,i.bytes))=some (some (.int .i64 0),1,8):=by kernel_rfl
theorem Grown.outs {S S':Nat→Prop} {w w':World} (h:Grown S w S' w'):Outs S w w':=⟨h.os,h.tape,h.output,h.size,h.block⟩
theorem Grown.keepNew {S S2:Nat→Prop} {w wx wz:World} {row:Option Nat} (h:Grown S w S2 wx) (k:wx.grownBy wz row) (hr:∀b,row=some b→w.heap.size≤b):Grown S w S2 wz :=
 ⟨k.os.trans h.os,k.tape.trans h.tape,k.output.trans h.output,Nat.le_trans h.size k.size,fun i hi hn=>(k.block i (Nat.lt_of_lt_of_le hi h.size) (fun e=>by have:=hr i e.symm;omega)).trans (h.block i hi hn),h.sub,h.new⟩
theorem at_new {v v':Value} {S:Nat→Prop} {n:Nat} (h:v'.ownBlock=v.ownBlock∨v'.ownBlock=some n) (hv:∀i,v.ownBlock=some i→¬ S i) (hn:∀i,S i→i<n):∀i,v'.ownBlock=some i→¬ S i:=by
 intro i hi hs
 rcases h with h | h
 ·exact hv i (h.symm.trans hi) hs
 ·rw [h] at hi
  cases hi
  have:=hn _ hs
  omega
structure Kp (B:Nat) (w:World) (g:Nat) (T:List Tm) (S0 S:Nat→Prop) (W:World):Prop where
 ar:Ar B W g T S
 grown:Grown S0 w S W
theorem Kp.step {B g:Nat} {w wx W:World} {T:List Tm} {S0 S:Nat→Prop} {row:Option Nat} (h:Kp B w g T S0 S wx) (k:wx.grownBy W row) (hr:∀b,row=some b→w.heap.size≤b∧¬ S b):Kp B w g T S0 S W :=
 ⟨h.ar.kept k fun b e=>(hr b e).2,h.grown.keepNew k fun b e=>(hr b e).1⟩
structure IdO (B0:Nat) (w:World) (T:List Tm) (ms:List (Option Tm)) (v:Value) (S:Nat→Prop):Prop where
 ids:∃ns,w.ownsRow B0 38 1 v ms.length (ns.map (Value.int .i64))∧Idns T ms ns
 out:∀i,v.ownBlock=some i→¬ S i
section
variable {B0 : Nat} {w w' : World} {T T' : List Tm} {ms : List (Option Tm)} {v : Value} {S S' : Nat → Prop}
theorem ido_nil (B0:Nat) (w:World) (T:List Tm) (S:Nat→Prop):IdO B0 w T [] (.slice none 0 0) S :=
 ⟨⟨[],World.ownsRow_nil _ _ _ _,idns_nil _⟩,fun i hi=>by simp [Value.ownBlock] at hi⟩
theorem IdO.sl (h:IdO B0 w T ms v S):∃A c,v=.slice A ms.length c:=by
 obtain ⟨⟨ns,h1,_⟩,_⟩:=h
 exact own_sl h1
theorem IdO.grown (h:IdO B0 w T ms v S) (hg:Grown S w S' w') (hp:T <+: T'):IdO B0 w' T' ms v S':=by
 obtain ⟨⟨ns,h1,h2⟩,h3⟩:=h
 refine ⟨⟨ns,hg.outs.own h1 h3,h2.pre hp⟩,fun i hi hs=>?_⟩
 rcases hg.new i hs with h6 | h6
 ·exact h3 i hi h6
 ·have:=(h1.lt i hi).2
  omega
theorem IdO.below (h:IdO B0 w T ms v S) (hb:Below w.heap.size w w'):IdO B0 w' T ms v S:=h.grown (Grown.of_below hb) (List.prefix_refl _)
theorem IdO.ids_ (h:IdO B0 w T ms v S):∃ns,Ids w v ns∧Idns T ms ns:=by
 obtain ⟨⟨ns,h1,h2⟩,_⟩:=h
 exact ⟨ns,own_ids h2.1.symm h1,h2⟩
end
end Go.Proofs.YtkfnepnghnicoaaGreatDoor
namespace Go.Proofs.YtkfnepnghnicoaaGreatDoor
open Go.RowKit
structure Flt (w:World) (b1 b2:Nat) (s1 s2:ByteArray) (k:Int):Prop where
 q1:Blk w b1 137 #[.string s1,.iface 135 (.pointer (some ⟨b2,0,none⟩))]
 q2:Blk w b2 137 #[.string s2,.iface 42 (.int .i64 k)]
theorem Flt.below {w w':World} {b1 b2:Nat} {s1 s2:ByteArray} {k:Int} (h:Flt w b1 b2 s1 s2 k) (hb:Below w.heap.size w w'):Flt w' b1 b2 s1 s2 k:=⟨h.q1.below hb h.q1.lt,h.q2.below hb h.q2.lt⟩
section
variable {w : World}
theorem wrong_any (outer inner:ByteArray) (k:Int) (hk:(k == 0)=false) (w:World):Calls Tryz.prog 50 #[.string outer,.string inner,.int .i64 k] w (fun e w'=>∃b1 b2,e=.returned (.iface 135 (.pointer (some ⟨b1,0,none⟩)))∧Flt w' b1 b2 outer inner k∧Below w.heap.size w w'∧w.heap.size≤b1∧w.heap.size≤b2):=by
 go_enter Tryz.func50,Tryz.ntmps50
 go_wp2
 go_ret
 exact ⟨_,_,rfl,⟨by simpa using Blk.new (w.alloc (.cells #[.string inner,.iface 42 (.int .i64 k)] 137)) 137 #[.string outer,.iface 135 (.pointer (some ⟨w.heap.size,0,none⟩))],(Blk.new w _ _).alloc _⟩,by exact bel_by,by omega,Nat.le_refl _⟩
end
end Go.Proofs.YtkfnepnghnicoaaGreatDoor
namespace Go.Proofs.YtkfnepnghnicoaaGreatDoor
open Go.RowKit Go.ChangeShapes Go.WideShapes Go.Sort
structure Fr (B g:Nat) (w:World) (T:List Tm) (S:Nat→Prop) (bs:List (Nat × TypeId × Array Value)) (W:World):Prop where
 bel:Below w.heap.size w W
 use:Use B W g T S
 wB:w.heap.size≤B
 blks:∀x∈bs,Blk W x.1 x.2.1 x.2.2∧¬ S x.1
section
variable {B g : Nat} {w W W' : World} {T T' : List Tm} {S S' : Nat → Prop} {bs : List (Nat × TypeId × Array Value)}
theorem Grown.notin2 (h:Grown S W S' W') {b:Nat} (hb:¬ S b) (hlt:b<W.heap.size):¬ S' b:=fun h2=>by
 rcases h.new b h2 with h3 | h3
 ·exact hb h3
 ·omega
theorem Fr.below (h:Fr B g w T S bs W) (hb:Below W.heap.size W W'):Fr B g w T S bs W' :=
 ⟨h.bel.trans (hb.mono h.bel.size),h.use.below hb,h.wB,fun x hx=>⟨(h.blks x hx).1.below hb (h.blks x hx).1.lt,(h.blks x hx).2⟩⟩
theorem Fr.grown (h:Fr B g w T S bs W) (hG:Grown S W S' W') (hA:Ar B W' g T' S') (hf:T'.length≤1000000000):Fr B g w T' S' bs W' :=
 ⟨h.bel.trans ((hG.below h.use.base h.use.ar.sB).mono h.wB),h.use.grown hG hA hf,h.wB,fun x hx=>⟨hG.outs.blk (h.blks x hx).1 (h.blks x hx).2,hG.notin2 (h.blks x hx).2 (h.blks x hx).1.lt⟩⟩
theorem Fr.new (h:Fr B g w T S bs W) (t:TypeId) (cs:Array Value):Fr B g w T S ((W.heap.size,t,cs) :: bs) (W.alloc (.cells cs t)):=by
 have h2:=h.below (bel_new (.cells cs t))
 refine ⟨h2.bel,h2.use,h2.wB,fun x hx=>?_⟩
 rcases List.mem_cons.1 hx with rfl | hx
 ·exact ⟨Blk.new _ _ _,fun hc=>by have:=h.use.ar.sL _ hc;simp at this⟩
 ·exact h2.blks x hx
theorem Fr.drop (h:Fr B g w T S bs W) {bs':List (Nat × TypeId × Array Value)} (hs:∀x∈bs',x∈bs):Fr B g w T S bs' W:=⟨h.bel,h.use,h.wB,fun x hx=>h.blks x (hs x hx)⟩
theorem Fr.blk {b:Nat} {t:TypeId} {cs:Array Value} (h:Fr B g w T S bs W) (hx:(b,t,cs)∈bs):Blk W b t cs:=(h.blks _ hx).1
end
def DoneS (B:Nat) (w:World) (g:Nat) (T:List Tm) (S:Nat→Prop) (o:Option Tm) (m:Nat) (e:Ending) (w':World):Prop :=
 ∃T' n S',e=.returned (.int .i64 n)∧Idn T' o n∧T <+: T'∧T'.length≤T.length+m∧Ar B w' g T' S'∧Grown S w S' w'
section
variable {B g : Nat} {w : World} {T : List Tm} {S : Nat → Prop}
theorem Done.s {o:Option Tm} {e:Ending} {w':World} (h:Done B w g T S o e w'):DoneS B w g T S o 1 e w':=by
 obtain ⟨T',n,S',rfl,hp,hA,hG⟩:=h
 exact ⟨T',n,S',rfl,hp.idn,hp.pre,hp.len,hA,hG⟩
end
def keyB:ByteArray:=⟨#[107,101,121]⟩
def sigB:ByteArray:=⟨#[115,105,103,110,97,116,117,114,101]⟩
def SR (b:Nat) (S:Nat→Prop) (i:Nat):Prop:=S i∨i=b
structure Rd (B b g:Nat) (s:ByteArray) (p:Nat) (T:List Tm) (S:Nat→Prop) (W:World):Prop where
 use:Use B W g T S
 bk:Bk W b g s p
 nb:¬ S b
 bB:B≤b
 hp:p≤s.size
 hs:s.size≤131072
 few:T.length+2*(s.size - p)≤900000000
section
variable {B b g p p' : Nat} {s : ByteArray} {T T' : List Tm} {S S' : Nat → Prop} {w w' : World}
theorem Grown.sr (h:Grown S w S' w') (b:Nat):Grown (SR b S) w (SR b S') w' :=
 ⟨h.os,h.tape,h.output,h.size,fun i hi hn=>h.block i hi (fun h2=>hn (.inl h2)),fun i hi=>hi.imp (h.sub i) id,fun i hi=>by
  rcases hi with hi | hi
  ·exact (h.new i hi).imp .inl id
  ·exact .inl (.inr hi)⟩
theorem grown_by (h:w.grownBy w' (some b)):Grown (SR b S) w (SR b S) w' :=
 ⟨h.os,h.tape,h.output,h.size,fun i hi hn=>h.block i hi (fun e=>hn (.inr (Option.some.inj e))),fun _ h=>h,fun _ h=>.inl h⟩
theorem Rd.sr_lt (h:Rd B b g s p T S w):∀i,SR b S i→i<w.heap.size:=fun i hi=>by
 rcases hi with hi | hi
 ·exact h.use.ar.sL i hi
 ·rw [hi];exact Blk.lt h.bk
theorem Rd.below (h:Rd B b g s p T S w) (hb:Below w.heap.size w w'):Rd B b g s p T S w' :=
 ⟨h.use.below hb,Blk.below h.bk hb (Blk.lt h.bk),h.nb,h.bB,h.hp,h.hs,h.few⟩
theorem Rd.grown (h:Rd B b g s p T S w) (hG:Grown S w S' w') (hA:Ar B w' g T' S') (hf:T'.length+2*(s.size - p)≤900000000):Rd B b g s p T' S' w' :=
 ⟨h.use.grown hG hA (by omega),hG.outs.blk h.bk h.nb,fun h2=>by
  rcases hG.new b h2 with h3 | h3
  ·exact h.nb h3
  ·have:=Blk.lt h.bk;omega,h.bB,h.hp,h.hs,hf⟩
theorem Rd.by_ (h:Rd B b g s p T S w) (hB:Bk w' b g s p') (hG:w.grownBy w' (some b)) (hp:p'≤s.size) (hle:p≤p'):Rd B b g s p' T S w' :=
 ⟨h.use.kept hG (fun i e=>by cases e;exact ⟨h.nb,h.bB⟩),hB,h.nb,h.bB,hp,h.hs,by have:=h.few;omega⟩
theorem Rd.keep {row:Option Nat} (h:Rd B b g s p T S w) (k:w.grownBy w' row) (hr:∀i,row=some i→¬ SR b S i∧B≤i):Rd B b g s p T S w' :=
 ⟨h.use.kept k (fun i e=>⟨fun hc=>(hr i e).1 (.inl hc),(hr i e).2⟩),Blk.grown h.bk k (fun e=>(hr b e.symm).1 (.inr rfl)),h.nb,h.bB,h.hp,h.hs,h.few⟩
theorem Rd.len (h:Rd B b g s p T S w):(s.data.toList.drop p).length=s.size - p:=by rw [List.length_drop,size_len]
end
def Got (B b g:Nat) (s:ByteArray) (p0 p:Nat) (T:List Tm) (S:Nat→Prop) (w:World) (e:Ending) (w':World):Prop :=
 ∃T' n S' p' o,e=.returned (.int .i64 n)∧Idn T' o n∧ReadT s p0 o p'∧Rd B b g s p' T' S' w'∧Grown (SR b S) w (SR b S') w'∧T <+: T'∧T'.length≤T.length+2*(p' - p)+1∧p≤p'
def GotT (B b g:Nat) (s:ByteArray) (p:Nat) (T:List Tm) (S:Nat→Prop) (w:World) (e:Ending) (w':World):Prop :=
 ∃T' n S' p' o,e=.returned (.int .i64 n)∧Idn T' o n∧ReadT s p o p'∧Rd B b g s p' T' S' w'∧Grown (SR b S) w (SR b S') w'∧T <+: T'∧T'.length≤T.length+2*(p' - p)∧p≤p'
def SomeP (B b g:Nat) (s:ByteArray) (p n:Nat) (T:List Tm) (S:Nat→Prop) (w:World) (e:Ending) (w':World):Prop :=
 (∃T' S' p',e=.returned (.tuple #[.slice none 0 0,.bool false])∧NoTs n (s.data.toList.drop p)∧Rd B b g s p' T' S' w'∧Grown (SR b S) w (SR b S') w'∧T <+: T'∧T'.length≤T.length+2*(p' - p)∧p≤p') ∨
 (∃T' S' p' l A c,e=.returned (.tuple #[.slice A n c,.bool true])∧goods l∧l.length=n∧s.data.toList.drop p=encs l++s.data.toList.drop p'∧IdO w.heap.size w' T' (l.map some) (.slice A n c) (SR b S')∧Rd B b g s p' T' S' w'∧Grown (SR b S) w (SR b S') w'∧T <+: T'∧T'.length≤T.length+2*(p' - p)∧p≤p')
structure SomI (B b g:Nat) (s:ByteArray) (p i:Nat) (T:List Tm) (S:Nat→Prop) (w:World) (T':List Tm) (S':Nat→Prop) (p':Nat) (l:List Tm) (v:Value) (wr:World):Prop where
 rd:Rd B b g s p' T' S' wr
 grown:Grown (SR b S) w (SR b S') wr
 pre:T <+: T'
 few:T'.length≤T.length+2*(p' - p)
 le:p≤p'
 gds:goods l
 len:l.length=i
 eq:s.data.toList.drop p=encs l++s.data.toList.drop p'
 ids:IdO w.heap.size wr T' (l.map some) v (SR b S')
section
variable {B b g p p' i : Nat} {s : ByteArray} {T T' T2 : List Tm} {S S' S2 : Nat → Prop} {w wr wx : World} {l : List Tm} {v : Value}
theorem somI_nil (h:Rd B b g s p T S w):SomI B b g s p 0 T S w T S p [] (.slice none 0 0) w :=
 ⟨h,Grown.refl _ _,List.prefix_refl _,by omega,Nat.le_refl _,trivial,rfl,by simp [encs],ido_nil _ _ _ _⟩
end
section
variable {B b g p p0 n : Nat} {s : ByteArray} {T : List Tm} {S : Nat → Prop} {w w1 w2 : World} {k a b' : Nat} {s' : ByteArray} {c : UInt8} {s1 : List UInt8}
theorem got_few (h1:s.data.toList.drop p0=c :: s1) (hc:c.toNat=240+k) (hH:Hed k a b' s' n s1 (s.data.toList.drop p)) {T1:List Tm} {S1:Nat→Prop} {p1:Nat} (hN:NoTs n (s.data.toList.drop p)) (hR:Rd B b g s p1 T1 S1 w1) (hG:Grown (SR b S) w (SR b S1) w1) (hp:T <+: T1)
  (hl:T1.length≤T.length+2*(p1 - p)) (hle:p≤p1):Got B b g s p0 p T S w (.returned (.int .i64 (-1))) w1 :=
 ⟨T1,-1,S1,p1,none,rfl,idn_none _,readT_few h1 hc hH hN,hR,hG,hp,by omega,hle⟩
theorem got_fin (h1:s.data.toList.drop p0=c :: s1) (hc:c.toNat=240+k) (hk:k≤10) (hH:Hed k a b' s' n s1 (s.data.toList.drop p)) {T1:List Tm} {S1:Nat→Prop} {p1:Nat} {l:List Tm} (hg:goods l) (hn:l.length=n) (he:s.data.toList.drop p=encs l++s.data.toList.drop p1)
  (hR:Rd B b g s p1 T1 S1 w1) (hG:Grown (SR b S) w (SR b S1) w1) (hp:T <+: T1) (hl:T1.length≤T.length+2*(p1 - p)) (hle:p≤p1) {o:Option Tm} (ho:MadeOf k a b' s' l o) {e:Ending} (hD:Done B w1 g T1 S1 o e w2) (hpp:p0<p) (hK:T.length+2*(s.size - p0)≤900000000):Got B b g s p0 p T S w e w2:=by
 obtain ⟨T2,m,S2,rfl,hP,hA,hG2⟩:=hD
 have h3:=hP.len
 have h4:=hR.few
 have h5:=hR.hp
 exact ⟨T2,m,S2,p1,o,rfl,hP.idn,readT_fin hR.hs h1 hc hk hH hg hn he ho,hR.grown hG2 hA (by omega),hG.trans (hG2.sr b),hp.trans hP.pre,by omega,hle⟩
end
def TermIH (B b g:Nat) (s:ByteArray) (N:Nat):Prop :=
 ∀(p:Nat) (T:List Tm) (S:Nat→Prop) (w:World),s.size - p<N→Rd B b g s p T S w→Calls Tryz.prog 87 #[.pointer (some ⟨b,0,none⟩)] w (GotT B b g s p T S w)
section
variable {B b g p N : Nat} {s : ByteArray} {T : List Tm} {S : Nat → Prop} {w : World}
theorem readT_no {s:ByteArray} {p p':Nat} (h:ReadT s p none p'):NoT (s.data.toList.drop p):=by
 rcases h with h | ⟨t,h,_⟩
 ·exact h.2
 ·cases h
theorem readT_yes {s:ByteArray} {p p':Nat} {t:Tm} (h:ReadT s p (some t) p'):good t∧s.data.toList.drop p=enc t++s.data.toList.drop p':=by
 rcases h with h | ⟨t',h,h2⟩
 ·cases h.1
 ·cases h
  exact h2
theorem some_any (IH:TermIH B b g s N) (h:Rd B b g s p T S w) (hN:s.size - p<N) (n:Nat) (hn:n≤1000) :
    Calls Tryz.prog 224 #[.pointer (some ⟨b,0,none⟩),.int .i64 n] w (SomeP B b g s p n T S w):=by
  have HI0:=hide (somI_nil h)
  have HB:=hide h.use.base
  have HIH:=hide IH
  clear h IH
  go_enter Tryz.func224,Tryz.ntmps224
  go_wp2_with fail
  go_loopw [9,6] (fun vi v wr=>∃(i:Nat) (T':List Tm) (S':Nat→Prop) (p':Nat) (l:List Tm),vi=.int .i64 i∧i≤n∧SomI B b g s p i T S w T' S' p' l v wr) (fun vi _ _=>n - (intOf vi).toNat)
  case atStart=>exact ⟨0,T,S,p,[],rfl,Nat.zero_le _,HI0.out⟩
  case round =>
    obtain ⟨i,T',S',p',l,rfl,hi,hI⟩:=hrel
    have HI:=hide hI
    obtain ⟨A1,c1,hv⟩:=hI.ids.sl
    have hml:(l.map some).length=i:=by rw [List.length_map,hI.len]
    rw [hml] at hv
    subst hv
    have hwz:=hI.grown.size
    by_cases hlt:i<n
    · have hii:(i:Int)<n:=by omega
      have HT:=hide (HIH.out p' T' S' wr (by have:=hI.le;omega) hI.rd)
      obtain ⟨iI,hiI,hI0,hI1,hI2⟩:=info_parts infoIDr
      clear hI
      go_wp2_with (first
        | (go_at_call 87;refine HT.out.mono ?_;rintro e wx ⟨T2,m,S2,p2,o,rfl,hid,hread,hR2,hG2,hpre,hlen,hle⟩;
           have hX:=HI.out.ids.grown hG2 hpre;obtain ⟨ns,ho1,hidn⟩:=hX.ids;rw [hml] at ho1;have hbx:=hG2.size)
        | (at_builtin;refine wpList_append_any _ rfl (.tmp 15) (.tmp 17) _ rfl w.heap.size 38 iI (.int .i64 0) 1 8 Tryz.underlying111 hiI hI0 hI1 hI2 rfl (by decide) _ _ _ rfl (ho1.alloc _) _ (some ⟨_,0,none⟩) 1 1 [.int .i64 m] rfl (reads_blk (Blk.new _ _ _) rfl) (by simp [Value.oneCell']) (by unfold maxLen;omega) (by omega) (by simp;omega) ?_;intro v6 w6 hown6 hgr6 hor6)
        | fail)
      · rename_i hm
        obtain rfl:m=-1:=by simpa using hm
        obtain rfl:=hid.none_iff.1 rfl
        have hI:=HI.out
        go_ret2
        exact .inl ⟨T2,S2,p2,rfl,noTs_stop hI.gds hI.len hlt hI.eq (readT_no hread),hR2,hI.grown.trans hG2,hI.pre.trans hpre,by have:=hI.few;have:=hI.le;omega,by have:=hI.le;omega⟩
      · have hI:=HI.out
        obtain ⟨t,rfl⟩:∃t,o=some t:=by
          cases o with
          | some t=>exact ⟨t,rfl⟩
          | none =>
            exfalso
            have:=hid.2 rfl
            simp_all
        obtain ⟨ht1,ht2⟩:=readT_yes hread
        have k1:=only_alloc (only_refl wx none) (.cells #[.int .i64 m] 38)
        have r1:=hR2.keep k1 (fun i e=>by cases e)
        have r2:=r1.keep hgr6 (fun j e=>⟨hX.out j e,Nat.le_trans HB.out (ho1.lt j e).1⟩)
        have g1:=((hI.grown.trans hG2).keepNew k1 (fun i e=>by cases e)).keepNew hgr6 (fun j e=>(ho1.lt j e).1)
        have hsx:=hR2.sr_lt
        refine ⟨⟨i+1,T2,S2,p2,l++[t],by go_num,by omega,r2,g1,hI.pre.trans hpre,by have:=hI.few;have:=hI.le;omega,by have:=hI.le;omega,goods_snoc hI.gds ht1,by simp [hI.len],?_,⟨ns++[m],?_,?_⟩,?_⟩,by simp [intOf];omega⟩
        · rw [hI.eq,ht2,encs_append]
          simp [encs]
        · simpa [hI.len] using hown6
        · simpa using hidn.snoc hid
        · exact at_new hor6 hX.out (fun i hi=>by have:=hsx i hi;simp;omega)
    · obtain rfl:i=n:=by omega
      have hii:¬ (i:Int)<i:=by omega
      go_wp2
      go_ret2
      have hI:=HI.out
      exact .inr ⟨T',S',p',l,A1,c1,rfl,hI.gds,hI.len,hI.eq,hI.ids,hI.rd,hI.grown,hI.pre,hI.few,hI.le⟩
end
section
variable {B b g p N : Nat} {s : ByteArray} {T : List Tm} {S : Nat → Prop} {w w1 : World}
theorem IdO.base {B0 B1:Nat} {ms:List (Option Tm)} {v:Value} (h:IdO B0 w T ms v S) (hb:B1≤B0):IdO B1 w T ms v S:=by
 obtain ⟨⟨ns,h1,h2⟩,h3⟩:=h
 exact ⟨⟨ns,own_base h1 hb,h2⟩,h3⟩
theorem SomeP.from_ {n:Nat} {e:Ending} {w':World} (h:SomeP B b g s p n T S w1 e w') (hG:Grown (SR b S) w (SR b S) w1):SomeP B b g s p n T S w e w':=by
 rcases h with ⟨T',S',p',h1,h2,h3,h4,h5⟩ | ⟨T',S',p',l,A,c,h1,h2,h3,h4,h5,h6,h7,h8⟩
 ·exact .inl ⟨T',S',p',h1,h2,h3,hG.trans h4,h5⟩
 ·exact .inr ⟨T',S',p',l,A,c,h1,h2,h3,h4,h5.base hG.size,h6,hG.trans h7,h8⟩
def CountN (B b g:Nat) (s:ByteArray) (p:Nat) (T:List Tm) (S:Nat→Prop) (w:World) (e:Ending) (w':World):Prop :=
 ∃p',e=.returned (.tuple #[.slice none 0 0,.bool false])∧Rd B b g s p' T S w'∧Grown (SR b S) w (SR b S) w'∧p≤p'
theorem counted_no1 (h:Rd B b g s p T S w) (most:Int) (h4:s.size<p+4):Calls Tryz.prog 154 #[.pointer (some ⟨b,0,none⟩),.int .i64 most] w (CountN B b g s p T S w):=by
 have HN:=hide (cNum_no h.bk (by have:=h.hs;omega) h.hp h4)
 have H:=hide h
 clear h
 go_enter Tryz.func154,Tryz.ntmps154
 go_wp2_with (go_at_call 151;refine HN.out.mono ?_;rintro e w1 ⟨rfl,hB1,hG1⟩)
 go_ret2
 exact ⟨p,rfl,H.out.by_ hB1 hG1 H.out.hp (Nat.le_refl _),grown_by hG1,Nat.le_refl _⟩
theorem counted_no2 (h:Rd B b g s p T S w) (most:Int) (h4:p+4≤s.size) {n:Nat} (hn:n=n4 (s.data.toList.drop p)) (hm:most<(n:Int)):Calls Tryz.prog 154 #[.pointer (some ⟨b,0,none⟩),.int .i64 most] w (CountN B b g s p T S w):=by
 have HN:=hide (cNum_yes h.bk (by have:=h.hs;omega) h4)
 rw [←hn] at HN
 have H:=hide h
 clear h hn
 go_enter Tryz.func154,Tryz.ntmps154
 go_wp2_with (go_at_call 151;refine HN.out.mono ?_;rintro e w1 ⟨rfl,hB1,hG1⟩)
 go_ret2
 exact ⟨p+4,rfl,H.out.by_ hB1 hG1 h4 (by omega),grown_by hG1,by omega⟩
theorem counted_yes (IH:TermIH B b g s N) (h:Rd B b g s p T S w) (hN:s.size - p≤N) (most:Int) (h4:p+4≤s.size) {n:Nat} (hn:n=n4 (s.data.toList.drop p)) (hm:(n:Int)≤most) (hn2:n≤1000):Calls Tryz.prog 154 #[.pointer (some ⟨b,0,none⟩),.int .i64 most] w (SomeP B b g s (p+4) n T S w):=by
 have HNu:=hide (cNum_yes h.bk (by have:=h.hs;omega) h4)
 rw [←hn] at HNu
 have H:=hide h
 have HIH:=hide IH
 have hm':¬ (most<(n:Int)):=by omega
 clear h hn IH
 go_enter Tryz.func154,Tryz.ntmps154
 go_wp2_with (first
  | (go_at_call 151;refine HNu.out.mono ?_;rintro e w1 ⟨rfl,hB1,hG1⟩;have hR1:=H.out.by_ hB1 hG1 h4 (by omega);have HS:=hide (some_any HIH.out hR1 (by omega) n hn2))
  | fail)
 refine HS.out.mono ?_
 rintro e w2 hS
 have hS:=hS.from_ (grown_by hG1)
 rcases hS with ⟨T',S',p',rfl,h2⟩ | ⟨T',S',p',l,A,c,rfl,h2⟩
 ·go_wp2_with fail
  go_ret2
  exact .inl ⟨T',S',p',rfl,h2⟩
 ·go_wp2_with fail
  go_ret2
  exact .inr ⟨T',S',p',l,A,c,rfl,h2⟩
theorem ido_cells {B0 n:Nat} {A:Option Addr} {c:Nat} {l:List Tm} (h:IdO B0 w T (l.map some) (.slice A n c) S) (hn:l.length=n) (h0:0<n):∃gb,A=some ⟨gb,0,none⟩∧gb<w.heap.size∧∀(k:Nat) (t:Tm),l[k]?=some t→∃m:Int,w.cell? ⟨gb,k,none⟩=some (.int .i64 m)∧Idn T (some t) m:=by
 obtain ⟨⟨ns,h1,h2⟩,h3⟩:=h
 have hl:(l.map some).length=n:=by simpa using hn
 rw [hl] at h1
 obtain ⟨gb,cap,hv,_,hlt⟩:=h1.form h0
 have hA:A=some ⟨gb,0,none⟩:=by injection hv
 refine ⟨gb,hA,hlt,fun k t hk=>?_⟩
 have hkl:=(List.getElem?_eq_some_iff.1 hk).1
 have hns:k<ns.length:=by rw [h2.1];simpa using hkl
 have hc:=h1.cells (g:=gb) (by rw [hv];rfl) k (.int .i64 ns[k]) (by rw [List.getElem?_map,List.getElem?_eq_getElem hns];rfl)
 rw [add_zero_] at hc
 exact ⟨ns[k],hc,h2.2 k (some t) _ (by rw [List.getElem?_map,hk];rfl) (List.getElem?_eq_getElem hns)⟩
theorem arg_of {n:Int} {t:Tm} (h:Idn T (some t) n):arg T n=some t:=h.1

theorem cl1_any (h:Use B w g T S) (hbk:Bk w b g s p) {bx gb c:Nat} (hx:Blk w bx 168 #[.pointer (some ⟨b,0,none⟩)]) {n0:Int} (c0:w.cell? ⟨gb,0,none⟩=some (.int .i64 n0)) (nx:¬ S bx) (nb:¬ S b) (ng:¬ S gb) :
  Calls Tryz.prog 144 #[.slice (some ⟨gb,0,none⟩) 1 c,.pointer (some ⟨bx,0,none⟩)] w (Done B w g T S (tPub (arg T n0))):=by
 have HP:=hide (fun (W:World) (hb:Below w.heap.size w W)=>aPub_any (h.below hb) n0)
 have x0:w.cell? ⟨bx,0,none⟩=some (.pointer (some ⟨b,0,none⟩)):=hx.cell 0
 have b0:w.cell? ⟨b,0,none⟩=some (.pointer (some ⟨g,0,none⟩)):=Blk.cell hbk 0
 clear h hbk hx
 go_enter Tryz.func144,Tryz.ntmps144
 go_upto_region 1 with fail
 go_region_held3 (fun W=>W.cell? ⟨bx,0,none⟩=some (.pointer (some ⟨b,0,none⟩))∧W.cell? ⟨b,0,none⟩=some (.pointer (some ⟨g,0,none⟩))∧W.cell? ⟨gb,0,none⟩=some (.int .i64 n0))
  (exact ⟨x0,b0,c0⟩)
  (first
   | (go_at_call 16;refine (HP.out _ (by exact bel_by)).mono ?_;rintro e w' ⟨T',n,S',rfl,hp,hA,hG⟩;replace x0:=hG.outs.cell x0 nx;replace b0:=hG.outs.cell b0 nb;replace c0:=hG.outs.cell c0 ng)
   | fail)
 all_goals go_wp2_with fail
 all_goals go_ret
 all_goals exact ⟨T',n,S',rfl,hp,hA,(Grown.of_below (by exact bel_by)).trans hG⟩
theorem cl2_any (h:Use B w g T S) (hbk:Bk w b g s p) {bx gb c:Nat} (hx:Blk w bx 168 #[.pointer (some ⟨b,0,none⟩)]) {n0:Int} (c0:w.cell? ⟨gb,0,none⟩=some (.int .i64 n0)) (nx:¬ S bx) (nb:¬ S b) (ng:¬ S gb) :
  Calls Tryz.prog 145 #[.slice (some ⟨gb,0,none⟩) 1 c,.pointer (some ⟨bx,0,none⟩)] w (Done B w g T S (tHash (arg T n0))):=by
 have HP:=hide (fun (W:World) (hb:Below w.heap.size w W)=>aHash_any (h.below hb) n0)
 have x0:w.cell? ⟨bx,0,none⟩=some (.pointer (some ⟨b,0,none⟩)):=hx.cell 0
 have b0:w.cell? ⟨b,0,none⟩=some (.pointer (some ⟨g,0,none⟩)):=Blk.cell hbk 0
 clear h hbk hx
 go_enter Tryz.func145,Tryz.ntmps145
 go_upto_region 1 with fail
 go_region_held3 (fun W=>W.cell? ⟨bx,0,none⟩=some (.pointer (some ⟨b,0,none⟩))∧W.cell? ⟨b,0,none⟩=some (.pointer (some ⟨g,0,none⟩))∧W.cell? ⟨gb,0,none⟩=some (.int .i64 n0))
  (exact ⟨x0,b0,c0⟩)
  (first
   | (go_at_call 26;refine (HP.out _ (by exact bel_by)).mono ?_;rintro e w' ⟨T',n,S',rfl,hp,hA,hG⟩;replace x0:=hG.outs.cell x0 nx;replace b0:=hG.outs.cell b0 nb;replace c0:=hG.outs.cell c0 ng)
   | fail)
 all_goals go_wp2_with fail
 all_goals go_ret
 all_goals exact ⟨T',n,S',rfl,hp,hA,(Grown.of_below (by exact bel_by)).trans hG⟩
theorem cl3_any (h:Use B w g T S) (hbk:Bk w b g s p) {bx gb c by_:Nat} (hx:Blk w bx 168 #[.pointer (some ⟨b,0,none⟩)]) {alg:ByteArray} (hsz:alg.size≤1000000) (hy:Blk w by_ 9 #[.string alg]) {n0 n1:Int} (c0:w.cell? ⟨gb,0,none⟩=some (.int .i64 n0)) (c1:w.cell? ⟨gb,1,none⟩=some (.int .i64 n1)) (nx:¬ S bx) (nb:¬ S b) (ng:¬ S gb) (ny:¬ S by_) :
  Calls Tryz.prog 148 #[.slice (some ⟨gb,0,none⟩) 2 c,.pointer (some ⟨bx,0,none⟩),.pointer (some ⟨by_,0,none⟩)] w (Done B w g T S (tSign alg (arg T n0) (arg T n1))):=by
 have HP:=hide (fun (W:World) (hb:Below w.heap.size w W)=>aSign_any (h.below hb) (s:=alg) (by omega) n0 n1)
 have x0:w.cell? ⟨bx,0,none⟩=some (.pointer (some ⟨b,0,none⟩)):=hx.cell 0
 have b0:w.cell? ⟨b,0,none⟩=some (.pointer (some ⟨g,0,none⟩)):=Blk.cell hbk 0
 have y0:w.cell? ⟨by_,0,none⟩=some (.string alg):=hy.cell 0
 clear h hbk hx hy
 go_enter Tryz.func148,Tryz.ntmps148
 go_upto_region 1 with fail
 go_region_held3 (fun W=>W.cell? ⟨bx,0,none⟩=some (.pointer (some ⟨b,0,none⟩))∧W.cell? ⟨b,0,none⟩=some (.pointer (some ⟨g,0,none⟩))∧W.cell? ⟨gb,0,none⟩=some (.int .i64 n0)∧W.cell? ⟨gb,1,none⟩=some (.int .i64 n1)∧W.cell? ⟨by_,0,none⟩=some (.string alg))
  (exact ⟨x0,b0,c0,c1,y0⟩)
  (first
   | (go_at_call 89;refine (HP.out _ (by exact bel_by)).mono ?_;rintro e w' ⟨T',n,S',rfl,hp,hA,hG⟩;replace x0:=hG.outs.cell x0 nx;replace b0:=hG.outs.cell b0 nb;replace c0:=hG.outs.cell c0 ng;replace c1:=hG.outs.cell c1 ng;replace y0:=hG.outs.cell y0 ny)
   | fail)
 all_goals go_wp2_with fail
 all_goals go_ret
 all_goals exact ⟨T',n,S',rfl,hp,hA,(Grown.of_below (by exact bel_by)).trans hG⟩
theorem cl4_any (h:Use B w g T S) (hbk:Bk w b g s p) {bx gb c by_:Nat} (hx:Blk w bx 168 #[.pointer (some ⟨b,0,none⟩)]) {q:Nat} (hq:q<256) (hy:Blk w by_ 5 #[.int .u8 (q:Nat)]) {n0 n1 n2:Int} (c0:w.cell? ⟨gb,0,none⟩=some (.int .i64 n0)) (c1:w.cell? ⟨gb,1,none⟩=some (.int .i64 n1)) (c2:w.cell? ⟨gb,2,none⟩=some (.int .i64 n2)) (nx:¬ S bx) (nb:¬ S b) (ng:¬ S gb) (ny:¬ S by_) :
  Calls Tryz.prog 149 #[.slice (some ⟨gb,0,none⟩) 3 c,.pointer (some ⟨bx,0,none⟩),.pointer (some ⟨by_,0,none⟩)] w (Done B w g T S (tDerive q (arg T n0) (arg T n1) (arg T n2))):=by
 have HP:=hide (fun (W:World) (hb:Below w.heap.size w W)=>aDerive_any (h.below hb) q hq n0 n1 n2)
 have x0:w.cell? ⟨bx,0,none⟩=some (.pointer (some ⟨b,0,none⟩)):=hx.cell 0
 have b0:w.cell? ⟨b,0,none⟩=some (.pointer (some ⟨g,0,none⟩)):=Blk.cell hbk 0
 have y0:w.cell? ⟨by_,0,none⟩=some (.int .u8 (q:Nat)):=hy.cell 0
 clear h hbk hx hy
 go_enter Tryz.func149,Tryz.ntmps149
 go_upto_region 1 with fail
 go_region_held3 (fun W=>W.cell? ⟨bx,0,none⟩=some (.pointer (some ⟨b,0,none⟩))∧W.cell? ⟨b,0,none⟩=some (.pointer (some ⟨g,0,none⟩))∧W.cell? ⟨gb,0,none⟩=some (.int .i64 n0)∧W.cell? ⟨gb,1,none⟩=some (.int .i64 n1)∧W.cell? ⟨gb,2,none⟩=some (.int .i64 n2)∧W.cell? ⟨by_,0,none⟩=some (.int .u8 (q:Nat)))
  (exact ⟨x0,b0,c0,c1,c2,y0⟩)
  (first
   | (go_at_call 150;refine (HP.out _ (by exact bel_by)).mono ?_;rintro e w' ⟨T',n,S',rfl,hp,hA,hG⟩;replace x0:=hG.outs.cell x0 nx;replace b0:=hG.outs.cell b0 nb;replace c0:=hG.outs.cell c0 ng;replace c1:=hG.outs.cell c1 ng;replace c2:=hG.outs.cell c2 ng;replace y0:=hG.outs.cell y0 ny)
   | fail)
 all_goals go_wp2_with fail
 all_goals go_ret
 all_goals exact ⟨T',n,S',rfl,hp,hA,(Grown.of_below (by exact bel_by)).trans hG⟩
theorem cl5_any (h:Use B w g T S) (hbk:Bk w b g s p) {bx gb c by_:Nat} (hx:Blk w bx 168 #[.pointer (some ⟨b,0,none⟩)]) {q:Nat} (hq:q<4294967296) (hy:Blk w by_ 3 #[.int .i64 (q:Nat)]) {n0 n1:Int} (c0:w.cell? ⟨gb,0,none⟩=some (.int .i64 n0)) (c1:w.cell? ⟨gb,1,none⟩=some (.int .i64 n1)) (nx:¬ S bx) (nb:¬ S b) (ng:¬ S gb) (ny:¬ S by_) :
  Calls Tryz.prog 152 #[.slice (some ⟨gb,0,none⟩) 2 c,.pointer (some ⟨bx,0,none⟩),.pointer (some ⟨by_,0,none⟩)] w (Done B w g T S (tSeal q (arg T n0) (arg T n1))):=by
 have HP:=hide (fun (W:World) (hb:Below w.heap.size w W)=>aSeal_any (h.below hb) q hq n0 n1)
 have x0:w.cell? ⟨bx,0,none⟩=some (.pointer (some ⟨b,0,none⟩)):=hx.cell 0
 have b0:w.cell? ⟨b,0,none⟩=some (.pointer (some ⟨g,0,none⟩)):=Blk.cell hbk 0
 have y0:w.cell? ⟨by_,0,none⟩=some (.int .i64 (q:Nat)):=hy.cell 0
 have wq:IntKind.u32.wrap (q:Int)=(q:Int):=by rw [IntKind.wrap_u32];omega
 clear h hbk hx hy
 go_enter Tryz.func152,Tryz.ntmps152
 go_upto_region 1 with fail
 go_region_held3 (fun W=>W.cell? ⟨bx,0,none⟩=some (.pointer (some ⟨b,0,none⟩))∧W.cell? ⟨b,0,none⟩=some (.pointer (some ⟨g,0,none⟩))∧W.cell? ⟨gb,0,none⟩=some (.int .i64 n0)∧W.cell? ⟨gb,1,none⟩=some (.int .i64 n1)∧W.cell? ⟨by_,0,none⟩=some (.int .i64 (q:Nat)))
  (exact ⟨x0,b0,c0,c1,y0⟩)
  (first
   | (go_at_call 153;refine (HP.out _ (by exact bel_by)).mono ?_;rintro e w' ⟨T',n,S',rfl,hp,hA,hG⟩;replace x0:=hG.outs.cell x0 nx;replace b0:=hG.outs.cell b0 nb;replace c0:=hG.outs.cell c0 ng;replace c1:=hG.outs.cell c1 ng;replace y0:=hG.outs.cell y0 ny)
   | fail)
 all_goals go_wp2_with fail
 all_goals go_ret
 all_goals exact ⟨T',n,S',rfl,hp,hA,(Grown.of_below (by exact bel_by)).trans hG⟩
theorem with1_any (IH:TermIH B b g s N) (h:Rd B b g s p T S w) (hN:s.size - p<N) {bx p0:Nat} (hx:Blk w bx 168 #[.pointer (some ⟨b,0,none⟩)]) (hxn:¬ SR b S bx) {c:UInt8} {s1:List UInt8}
  (h1:s.data.toList.drop p0=c :: s1) (hc:c.toNat=240+4) (hH:Hed 4 0 0 eB 1 s1 (s.data.toList.drop p)) (hpp:p0<p) (hK:T.length+2*(s.size - p0)≤900000000) :
  Calls Tryz.prog 143 #[.pointer (some ⟨b,0,none⟩),.int .i64 1,.func (.func 144) #[] #[.pointer (some ⟨bx,0,none⟩)]] w (Got B b g s p0 p T S w):=by
 have HS:=hide (some_any IH h hN 1 (by omega))
 have H:=hide h
 have Hx:=hide hx
 have Hc:=hide hc
 have HH:=hide hH
 have H1:=hide h1
 clear h IH hx hc hH h1
 go_enter Tryz.func143,Tryz.ntmps143
 go_wp2_with fail
 refine HS.out.mono ?_
 rintro e w1 (⟨T1,S1,p1,rfl,hNo,hR,hG,hpre,hl,hle⟩ | ⟨T1,S1,p1,l,A,cz,rfl,hg,hn,he,hI,hR,hG,hpre,hl,hle⟩)
 ·go_wp2_with fail
  go_ret
  exact got_few H1.out Hc.out HH.out hNo hR hG hpre hl hle
 ·obtain ⟨gb,rfl,hgl,hcell⟩:=ido_cells hI hn (by omega)
  match l,hn with
  | [t0],_ =>
   obtain ⟨n0,c0,i0⟩:=hcell 0 t0 rfl
   have a0:=arg_of i0
   have NX:=hG.notin2 hxn Hx.out.lt
   have NG:=hI.out gb rfl
   have HD:=hide (cl1_any hR.use hR.bk (hG.outs.blk Hx.out hxn) (c:=cz) c0 (fun h9=>NX (.inl h9)) hR.nb (fun h9=>NG (.inl h9)))
   rw [a0] at HD
   go_wp2_with fail
   refine HD.out.mono ?_
   rintro e w2 hD
   have hF:=hide (got_fin (w:=w) H1.out Hc.out (by omega) HH.out hg rfl he hR hG hpre hl hle (madeOf_pub t0) hD hpp hK)
   obtain ⟨T2,m,S2,rfl,hD2⟩:=hD
   go_wp2_with fail
   go_ret
   exact hF.out
theorem with2_any (IH:TermIH B b g s N) (h:Rd B b g s p T S w) (hN:s.size - p<N) {bx p0:Nat} (hx:Blk w bx 168 #[.pointer (some ⟨b,0,none⟩)]) (hxn:¬ SR b S bx) {c:UInt8} {s1:List UInt8}
  (h1:s.data.toList.drop p0=c :: s1) (hc:c.toNat=240+7) (hH:Hed 7 0 0 eB 1 s1 (s.data.toList.drop p)) (hpp:p0<p) (hK:T.length+2*(s.size - p0)≤900000000) :
  Calls Tryz.prog 143 #[.pointer (some ⟨b,0,none⟩),.int .i64 1,.func (.func 145) #[] #[.pointer (some ⟨bx,0,none⟩)]] w (Got B b g s p0 p T S w):=by
 have HS:=hide (some_any IH h hN 1 (by omega))
 have H:=hide h
 have Hx:=hide hx
 have Hc:=hide hc
 have HH:=hide hH
 have H1:=hide h1
 clear h IH hx hc hH h1
 go_enter Tryz.func143,Tryz.ntmps143
 go_wp2_with fail
 refine HS.out.mono ?_
 rintro e w1 (⟨T1,S1,p1,rfl,hNo,hR,hG,hpre,hl,hle⟩ | ⟨T1,S1,p1,l,A,cz,rfl,hg,hn,he,hI,hR,hG,hpre,hl,hle⟩)
 ·go_wp2_with fail
  go_ret
  exact got_few H1.out Hc.out HH.out hNo hR hG hpre hl hle
 ·obtain ⟨gb,rfl,hgl,hcell⟩:=ido_cells hI hn (by omega)
  match l,hn with
  | [t0],_ =>
   obtain ⟨n0,c0,i0⟩:=hcell 0 t0 rfl
   have a0:=arg_of i0
   have NX:=hG.notin2 hxn Hx.out.lt
   have NG:=hI.out gb rfl
   have HD:=hide (cl2_any hR.use hR.bk (hG.outs.blk Hx.out hxn) (c:=cz) c0 (fun h9=>NX (.inl h9)) hR.nb (fun h9=>NG (.inl h9)))
   rw [a0] at HD
   go_wp2_with fail
   refine HD.out.mono ?_
   rintro e w2 hD
   have hF:=hide (got_fin (w:=w) H1.out Hc.out (by omega) HH.out hg rfl he hR hG hpre hl hle (madeOf_hash t0) hD hpp hK)
   obtain ⟨T2,m,S2,rfl,hD2⟩:=hD
   go_wp2_with fail
   go_ret
   exact hF.out
theorem with3_any (IH:TermIH B b g s N) (h:Rd B b g s p T S w) (hN:s.size - p<N) {bx by_ p0:Nat} (hx:Blk w bx 168 #[.pointer (some ⟨b,0,none⟩)]) (hxn:¬ SR b S bx) {alg:ByteArray} (hsz:alg.size≤1000000) (hy:Blk w by_ 9 #[.string alg]) (hyn:¬ SR b S by_) {c:UInt8} {s1:List UInt8}
  (h1:s.data.toList.drop p0=c :: s1) (hc:c.toNat=240+6) (hH:Hed 6 0 0 alg 2 s1 (s.data.toList.drop p)) (hpp:p0<p) (hK:T.length+2*(s.size - p0)≤900000000) :
  Calls Tryz.prog 143 #[.pointer (some ⟨b,0,none⟩),.int .i64 2,.func (.func 148) #[] #[.pointer (some ⟨bx,0,none⟩),.pointer (some ⟨by_,0,none⟩)]] w (Got B b g s p0 p T S w):=by
 have HS:=hide (some_any IH h hN 2 (by omega))
 have H:=hide h
 have Hx:=hide hx
 have Hc:=hide hc
 have HH:=hide hH
 have H1:=hide h1
 have Hy:=hide hy
 clear h IH hx hc hH h1 hy
 go_enter Tryz.func143,Tryz.ntmps143
 go_wp2_with fail
 refine HS.out.mono ?_
 rintro e w1 (⟨T1,S1,p1,rfl,hNo,hR,hG,hpre,hl,hle⟩ | ⟨T1,S1,p1,l,A,cz,rfl,hg,hn,he,hI,hR,hG,hpre,hl,hle⟩)
 ·go_wp2_with fail
  go_ret
  exact got_few H1.out Hc.out HH.out hNo hR hG hpre hl hle
 ·obtain ⟨gb,rfl,hgl,hcell⟩:=ido_cells hI hn (by omega)
  match l,hn with
  | [t0,t1],_ =>
   obtain ⟨n0,c0,i0⟩:=hcell 0 t0 rfl
   have a0:=arg_of i0
   obtain ⟨n1,c1,i1⟩:=hcell 1 t1 rfl
   have a1:=arg_of i1
   have NX:=hG.notin2 hxn Hx.out.lt
   have NG:=hI.out gb rfl
   have NY:=hG.notin2 hyn Hy.out.lt
   have HD:=hide (cl3_any hR.use hR.bk (hG.outs.blk Hx.out hxn) hsz (hG.outs.blk Hy.out hyn) (c:=cz) c0 c1 (fun h9=>NX (.inl h9)) hR.nb (fun h9=>NG (.inl h9)) (fun h9=>NY (.inl h9)))
   rw [a0,a1] at HD
   go_wp2_with fail
   refine HD.out.mono ?_
   rintro e w2 hD
   have hF:=hide (got_fin (w:=w) H1.out Hc.out (by omega) HH.out hg rfl he hR hG hpre hl hle (madeOf_sign alg t0 t1) hD hpp hK)
   obtain ⟨T2,m,S2,rfl,hD2⟩:=hD
   go_wp2_with fail
   go_ret
   exact hF.out
theorem with4_any (IH:TermIH B b g s N) (h:Rd B b g s p T S w) (hN:s.size - p<N) {bx by_ p0:Nat} (hx:Blk w bx 168 #[.pointer (some ⟨b,0,none⟩)]) (hxn:¬ SR b S bx) {q:Nat} (hq:q<256) (hy:Blk w by_ 5 #[.int .u8 (q:Nat)]) (hyn:¬ SR b S by_) {c:UInt8} {s1:List UInt8}
  (h1:s.data.toList.drop p0=c :: s1) (hc:c.toNat=240+8) (hH:Hed 8 0 q eB 3 s1 (s.data.toList.drop p)) (hpp:p0<p) (hK:T.length+2*(s.size - p0)≤900000000) :
  Calls Tryz.prog 143 #[.pointer (some ⟨b,0,none⟩),.int .i64 3,.func (.func 149) #[] #[.pointer (some ⟨bx,0,none⟩),.pointer (some ⟨by_,0,none⟩)]] w (Got B b g s p0 p T S w):=by
 have HS:=hide (some_any IH h hN 3 (by omega))
 have H:=hide h
 have Hx:=hide hx
 have Hc:=hide hc
 have HH:=hide hH
 have H1:=hide h1
 have Hy:=hide hy
 clear h IH hx hc hH h1 hy
 go_enter Tryz.func143,Tryz.ntmps143
 go_wp2_with fail
 refine HS.out.mono ?_
 rintro e w1 (⟨T1,S1,p1,rfl,hNo,hR,hG,hpre,hl,hle⟩ | ⟨T1,S1,p1,l,A,cz,rfl,hg,hn,he,hI,hR,hG,hpre,hl,hle⟩)
 ·go_wp2_with fail
  go_ret
  exact got_few H1.out Hc.out HH.out hNo hR hG hpre hl hle
 ·obtain ⟨gb,rfl,hgl,hcell⟩:=ido_cells hI hn (by omega)
  match l,hn with
  | [t0,t1,t2],_ =>
   obtain ⟨n0,c0,i0⟩:=hcell 0 t0 rfl
   have a0:=arg_of i0
   obtain ⟨n1,c1,i1⟩:=hcell 1 t1 rfl
   have a1:=arg_of i1
   obtain ⟨n2,c2,i2⟩:=hcell 2 t2 rfl
   have a2:=arg_of i2
   have NX:=hG.notin2 hxn Hx.out.lt
   have NG:=hI.out gb rfl
   have NY:=hG.notin2 hyn Hy.out.lt
   have HD:=hide (cl4_any hR.use hR.bk (hG.outs.blk Hx.out hxn) hq (hG.outs.blk Hy.out hyn) (c:=cz) c0 c1 c2 (fun h9=>NX (.inl h9)) hR.nb (fun h9=>NG (.inl h9)) (fun h9=>NY (.inl h9)))
   rw [a0,a1,a2] at HD
   go_wp2_with fail
   refine HD.out.mono ?_
   rintro e w2 hD
   have hF:=hide (got_fin (w:=w) H1.out Hc.out (by omega) HH.out hg rfl he hR hG hpre hl hle (madeOf_derive q hq t0 t1 t2) hD hpp hK)
   obtain ⟨T2,m,S2,rfl,hD2⟩:=hD
   go_wp2_with fail
   go_ret
   exact hF.out
theorem with5_any (IH:TermIH B b g s N) (h:Rd B b g s p T S w) (hN:s.size - p<N) {bx by_ p0:Nat} (hx:Blk w bx 168 #[.pointer (some ⟨b,0,none⟩)]) (hxn:¬ SR b S bx) {q:Nat} (hq:q<4294967296) (hy:Blk w by_ 3 #[.int .i64 (q:Nat)]) (hyn:¬ SR b S by_) {c:UInt8} {s1:List UInt8}
  (h1:s.data.toList.drop p0=c :: s1) (hc:c.toNat=240+9) (hH:Hed 9 0 q eB 2 s1 (s.data.toList.drop p)) (hpp:p0<p) (hK:T.length+2*(s.size - p0)≤900000000) :
  Calls Tryz.prog 143 #[.pointer (some ⟨b,0,none⟩),.int .i64 2,.func (.func 152) #[] #[.pointer (some ⟨bx,0,none⟩),.pointer (some ⟨by_,0,none⟩)]] w (Got B b g s p0 p T S w):=by
 have HS:=hide (some_any IH h hN 2 (by omega))
 have H:=hide h
 have Hx:=hide hx
 have Hc:=hide hc
 have HH:=hide hH
 have H1:=hide h1
 have Hy:=hide hy
 clear h IH hx hc hH h1 hy
 go_enter Tryz.func143,Tryz.ntmps143
 go_wp2_with fail
 refine HS.out.mono ?_
 rintro e w1 (⟨T1,S1,p1,rfl,hNo,hR,hG,hpre,hl,hle⟩ | ⟨T1,S1,p1,l,A,cz,rfl,hg,hn,he,hI,hR,hG,hpre,hl,hle⟩)
 ·go_wp2_with fail
  go_ret
  exact got_few H1.out Hc.out HH.out hNo hR hG hpre hl hle
 ·obtain ⟨gb,rfl,hgl,hcell⟩:=ido_cells hI hn (by omega)
  match l,hn with
  | [t0,t1],_ =>
   obtain ⟨n0,c0,i0⟩:=hcell 0 t0 rfl
   have a0:=arg_of i0
   obtain ⟨n1,c1,i1⟩:=hcell 1 t1 rfl
   have a1:=arg_of i1
   have NX:=hG.notin2 hxn Hx.out.lt
   have NG:=hI.out gb rfl
   have NY:=hG.notin2 hyn Hy.out.lt
   have HD:=hide (cl5_any hR.use hR.bk (hG.outs.blk Hx.out hxn) hq (hG.outs.blk Hy.out hyn) (c:=cz) c0 c1 (fun h9=>NX (.inl h9)) hR.nb (fun h9=>NG (.inl h9)) (fun h9=>NY (.inl h9)))
   rw [a0,a1] at HD
   go_wp2_with fail
   refine HD.out.mono ?_
   rintro e w2 hD
   have hF:=hide (got_fin (w:=w) H1.out Hc.out (by omega) HH.out hg rfl he hR hG hpre hl hle (madeOf_seal q hq t0 t1) hD hpp hK)
   obtain ⟨T2,m,S2,rfl,hD2⟩:=hD
   go_wp2_with fail
   go_ret
   exact hF.out
end
section
variable {B b g p p0 N : Nat} {s : ByteArray} {T : List Tm} {S : Nat → Prop} {w w1 w2 : World} {c : UInt8} {s1 : List UInt8}
theorem got_none {p1:Nat} (hN:NoT (s.data.toList.drop p0)) (hR:Rd B b g s p1 T S w1) (hG:Grown (SR b S) w (SR b S) w1) (hle:p≤p1):Got B b g s p0 p T S w (.returned (.int .i64 (-1))) w1 :=
 ⟨T,-1,S,p1,none,rfl,idn_none _,readT_none hN,hR,hG,List.prefix_refl _,by omega,hle⟩
theorem got_leaf {k a b':Nat} {s':ByteArray} {p1:Nat} (h1:s.data.toList.drop p0=c :: s1) (hc:c.toNat=240+k) (hk:k≤10) (hH:Hed k a b' s' 0 s1 (s.data.toList.drop p1))
  (hR:Rd B b g s p1 T S w1) (hG:Grown (SR b S) w (SR b S) w1) (hle:p≤p1) {o:Option Tm} (ho:MadeOf k a b' s' [] o) {e:Ending} (hD:Done B w1 g T S o e w2) (hpp:p0<p) (hK:T.length+2*(s.size - p0)≤900000000):Got B b g s p0 p T S w e w2:=by
 obtain ⟨T2,m,S2,rfl,hP,hA,hG2⟩:=hD
 have h3:=hP.len
 have h5:=hR.hp
 exact ⟨T2,m,S2,p1,o,rfl,hP.idn,readT_fin hR.hs h1 hc hk hH (l:=[]) trivial rfl (by simp [encs]) ho,hR.grown hG2 hA (by omega),hG.trans (hG2.sr b),hP.pre,by omega,hle⟩
theorem rd_cells (h:Rd B b g s p T S w):w.cell? ⟨b,0,none⟩=some (.pointer (some ⟨g,0,none⟩)):=Blk.cell h.bk 0
def TextP (B b g:Nat) (s:ByteArray) (p:Nat) (T:List Tm) (S:Nat→Prop) (w:World) (e:Ending) (w':World):Prop :=
 (∃p',e=.returned (.tuple #[.string ⟨#[]⟩,.bool false])∧(s.size<p+4∨(p+4≤s.size∧s.size<p+4+n4 (s.data.toList.drop p)))∧Rd B b g s p' T S w'∧Grown (SR b S) w (SR b S) w'∧p≤p') ∨
 (∃n,n=n4 (s.data.toList.drop p)∧p+4+n≤s.size∧e=.returned (.tuple #[.string (bs ((s.data.toList.drop (p+4)).take n)),.bool true])∧Rd B b g s (p+4+n) T S w'∧Grown (SR b S) w (SR b S) w')
theorem text_all (h:Rd B b g s p T S w):Calls Tryz.prog 147 #[.pointer (some ⟨b,0,none⟩)] w (TextP B b g s p T S w):=by
 have hs:s.size≤1000000:=by have:=h.hs;omega
 by_cases h4:s.size<p+4
 ·refine (cText1_no1 h.bk hs h.hp h4).mono ?_
  rintro e w' ⟨rfl,hB,hG⟩
  exact .inl ⟨p,rfl,.inl h4,h.by_ hB hG h.hp (Nat.le_refl _),grown_by hG,Nat.le_refl _⟩
 ·by_cases h5:s.size<p+4+n4 (s.data.toList.drop p)
  ·refine (cText1_no2 h.bk hs rfl (by omega) h5).mono ?_
   rintro e w' ⟨rfl,hB,hG⟩
   exact .inl ⟨p+4,rfl,.inr ⟨by omega,h5⟩,h.by_ hB hG (by omega) (by omega),grown_by hG,by omega⟩
  ·refine (cText1_yes h.bk hs rfl (by omega)).mono ?_
   rintro e w' ⟨rfl,hB,hG⟩
   exact .inr ⟨_,rfl,by omega,rfl,h.by_ hB hG (by omega) (by omega),grown_by hG⟩
def NumP (B b g:Nat) (s:ByteArray) (p:Nat) (T:List Tm) (S:Nat→Prop) (w:World) (e:Ending) (w':World):Prop :=
 (e=.returned (.tuple #[.int .i64 0,.bool false])∧s.size<p+4∧Rd B b g s p T S w'∧Grown (SR b S) w (SR b S) w') ∨
 (p+4≤s.size∧e=.returned (.tuple #[.int .i64 (n4 (s.data.toList.drop p)),.bool true])∧Rd B b g s (p+4) T S w'∧Grown (SR b S) w (SR b S) w')
theorem num_all (h:Rd B b g s p T S w):Calls Tryz.prog 151 #[.pointer (some ⟨b,0,none⟩)] w (NumP B b g s p T S w):=by
 have hs:s.size≤1000000:=by have:=h.hs;omega
 by_cases h4:s.size<p+4
 ·refine (cNum_no h.bk hs h.hp h4).mono ?_
  rintro e w' ⟨rfl,hB,hG⟩
  exact .inl ⟨rfl,h4,h.by_ hB hG h.hp (Nat.le_refl _),grown_by hG⟩
 ·refine (cNum_yes h.bk hs (by omega)).mono ?_
  rintro e w' ⟨rfl,hB,hG⟩
  exact .inr ⟨by omega,rfl,h.by_ hB hG (by omega) (by omega),grown_by hG⟩
def ByteP (B b g:Nat) (s:ByteArray) (p:Nat) (T:List Tm) (S:Nat→Prop) (w:World) (e:Ending) (w':World):Prop :=
 (e=.returned (.tuple #[.int .u8 0,.bool false])∧p=s.size∧Rd B b g s p T S w'∧Grown (SR b S) w (SR b S) w') ∨
 (∃c:UInt8,s.data.toList.drop p=c :: s.data.toList.drop (p+1)∧p+1≤s.size∧e=.returned (.tuple #[.int .u8 c.toNat,.bool true])∧Rd B b g s (p+1) T S w'∧Grown (SR b S) w (SR b S) w')
theorem byte_all (h:Rd B b g s p T S w):Calls Tryz.prog 142 #[.pointer (some ⟨b,0,none⟩)] w (ByteP B b g s p T S w):=by
 have hs:s.size≤1000000:=by have:=h.hs;omega
 refine (byte1_any h.bk hs h.hp).mono ?_
 rintro e w' ⟨p',he,hB,hG⟩
 by_cases hlt:p<s.size
 ·rw [dif_pos hlt] at he
  obtain ⟨rfl,rfl⟩:=he
  exact .inr ⟨s[p],drop_cons (s:=s.data.toList) hlt,hlt,rfl,h.by_ hB hG hlt (by omega),grown_by hG⟩
 ·rw [dif_neg hlt] at he
  obtain ⟨rfl,rfl⟩:=he
  have:=h.hp
  exact .inl ⟨rfl,by omega,h.by_ hB hG h.hp (Nat.le_refl _),grown_by hG⟩
theorem leaf_data (h:Rd B b g s (p0+1) T S w) (h1:s.data.toList.drop p0=c :: s.data.toList.drop (p0+1)) (hc:c.toNat=241) (hK:T.length+2*(s.size - p0)≤900000000) :
  Calls Tryz.prog 156 #[.pointer (some ⟨b,0,none⟩),.int .i64 1] w (Got B b g s p0 (p0+1) T S w):=by
 have HX:=hide (text_all h)
 have H:=hide h
 have H1:=hide h1
 have hlen:=h.len
 have hsz:=h.hs
 clear h h1
 go_enter Tryz.func156,Tryz.ntmps156
 go_wp2_with fail
 refine HX.out.mono ?_
 rintro e w1 (⟨p1,rfl,hno,hR,hG,hle⟩ | ⟨n,hn,h5,rfl,hR,hG⟩)
 ·go_wp2_with fail
  go_ret
  refine got_none ?_ hR hG hle
  rw [H1.out]
  exact no1 hc (by omega)
 ·have hb0:=rd_cells hR
  have hnl:(bs ((s.data.toList.drop (p0+1+4)).take n)).size≤1000000:=by
   show ((s.data.toList.drop (p0+1+4)).take n).length≤1000000
   rw [List.length_take]
   omega
  have HD:=hide (aData_any hR.use hnl)
  have hH:Hed 1 0 0 (bs ((s.data.toList.drop (p0+1+4)).take n)) 0 (s.data.toList.drop (p0+1)) (s.data.toList.drop (p0+1+4+n)):=by
   have:=hed1 (s1:=s.data.toList.drop (p0+1)) (by omega) (by omega)
   rw [List.drop_drop,List.drop_drop,← hn] at this
   rw [show p0+1+4+n=p0+1+(4+n) by omega]
   exact this
  have HF:=hide (fun e w2 (hD:Done B w1 g T S (tData (bs ((s.data.toList.drop (p0+1+4)).take n))) e w2)=>got_leaf (w:=w) (p:=p0+1) H1.out hc (by omega) hH hR hG (by omega) (madeOf_data _ (by omega)) hD (by omega) hK)
  clear hH hR hG hn hnl
  generalize bs ((s.data.toList.drop (p0+1+4)).take n)=x at HD HF ⊢
  go_wp2_with fail
  refine HD.out.mono ?_
  intro e w2 hD
  have hF:=hide (HF.out e w2 hD)
  obtain ⟨T2,m,S2,rfl,_⟩:=hD
  go_wp2_with fail
  go_ret
  exact hF.out
theorem leaf_key (h:Rd B b g s (p0+1) T S w) (h1:s.data.toList.drop p0=c :: s.data.toList.drop (p0+1)) (hc:c.toNat=243) (hK:T.length+2*(s.size - p0)≤900000000) :
  Calls Tryz.prog 156 #[.pointer (some ⟨b,0,none⟩),.int .i64 3] w (Got B b g s p0 (p0+1) T S w):=by
 have HX:=hide (num_all h)
 have H1:=hide h1
 have hlen:=h.len
 clear h h1
 go_enter Tryz.func156,Tryz.ntmps156
 go_wp2_with fail
 refine HX.out.mono ?_
 rintro e w1 (⟨rfl,hno,hR,hG⟩ | ⟨h4,rfl,hR,hG⟩)
 ·go_wp2_with fail
  go_ret
  refine got_none ?_ hR hG (Nat.le_refl _)
  rw [H1.out]
  exact no3 hc (by omega)
 ·have hb0:=rd_cells hR
  have HD:=hide (aKey_any hR.use (n4 (s.data.toList.drop (p0+1)):Nat))
  have hH:Hed 3 (n4 (s.data.toList.drop (p0+1))) 0 eB 0 (s.data.toList.drop (p0+1)) (s.data.toList.drop (p0+1+4)):=by
   have:=hed3 (s1:=s.data.toList.drop (p0+1)) (by omega)
   rw [List.drop_drop] at this
   exact this
  have HF:=hide (fun e w2 hD=>got_leaf (e:=e) (w2:=w2) (w:=w) (p:=p0+1) H1.out hc (by omega) hH hR hG (by omega) (madeOf_key _) hD (by omega) hK)
  clear hH hR hG
  generalize n4 (s.data.toList.drop (p0+1))=x at HD HF ⊢
  go_wp2_with fail
  refine HD.out.mono ?_
  intro e w2 hD
  have hF:=hide (HF.out e w2 hD)
  obtain ⟨T2,m,S2,rfl,_⟩:=hD
  go_wp2_with fail
  go_ret
  exact hF.out
theorem leaf_nonce (h:Rd B b g s (p0+1) T S w) (h1:s.data.toList.drop p0=c :: s.data.toList.drop (p0+1)) (hc:c.toNat=242) (hK:T.length+2*(s.size - p0)≤900000000) :
  Calls Tryz.prog 156 #[.pointer (some ⟨b,0,none⟩),.int .i64 2] w (Got B b g s p0 (p0+1) T S w):=by
 have HX:=hide (num_all h)
 have H1:=hide h1
 have hlen:=h.len
 clear h h1
 go_enter Tryz.func156,Tryz.ntmps156
 go_wp2_with fail
 refine HX.out.mono ?_
 rintro e w1 (⟨rfl,hno,hR,hG⟩ | ⟨h4,rfl,hR,hG⟩)
 ·have HY:=hide (num_all hR)
  go_wp2_with fail
  refine HY.out.mono ?_
  rintro e w2 (⟨rfl,hno2,hR2,hG2⟩ | ⟨h42,rfl,hR2,hG2⟩)
  ·go_wp2_with fail
   go_ret
   refine got_none ?_ hR2 (hG.trans hG2) (Nat.le_refl _)
   rw [H1.out]
   exact no2 hc (by omega)
  ·omega
 ·have HY:=hide (num_all hR)
  go_wp2_with fail
  refine HY.out.mono ?_
  rintro e w2 (⟨rfl,hno2,hR2,hG2⟩ | ⟨h42,rfl,hR2,hG2⟩)
  ·go_wp2_with fail
   go_ret
   refine got_none ?_ hR2 (hG.trans hG2) (by omega)
   rw [H1.out]
   exact no2 hc (by omega)
  ·have hb0:=rd_cells hR2
   have HD:=hide (aNonce_any hR2.use (n4 (s.data.toList.drop (p0+1)):Nat) (n4 (s.data.toList.drop (p0+1+4)):Nat))
   have hH:Hed 2 (n4 (s.data.toList.drop (p0+1))) (n4 (s.data.toList.drop (p0+1+4))) eB 0 (s.data.toList.drop (p0+1)) (s.data.toList.drop (p0+1+4+4)):=by
    have:=hed2 (s1:=s.data.toList.drop (p0+1)) (by omega)
    rw [List.drop_drop,List.drop_drop] at this
    exact this
   have HF:=hide (fun e w3 hD=>got_leaf (e:=e) (w2:=w3) (w:=w) (p:=p0+1) H1.out hc (by omega) hH hR2 (hG.trans hG2) (by omega) (madeOf_nonce _ _) hD (by omega) hK)
   clear hH hR hG hR2 hG2 HY
   generalize n4 (s.data.toList.drop (p0+1))=x at HD HF ⊢
   generalize n4 (s.data.toList.drop (p0+1+4))=y at HD HF ⊢
   go_wp2_with fail
   refine HD.out.mono ?_
   intro e w3 hD
   have hF:=hide (HF.out e w3 hD)
   obtain ⟨T2,m,S2,rfl,_⟩:=hD
   go_wp2_with fail
   go_ret
   exact hF.out
theorem leaf_other (h:Rd B b g s (p0+1) T S w) (k:Int) (h1:¬ k=1) (h2:¬ k=2) (h3:¬ k=3) (hN:NoT (s.data.toList.drop p0)) :
  Calls Tryz.prog 156 #[.pointer (some ⟨b,0,none⟩),.int .i64 k] w (Got B b g s p0 (p0+1) T S w):=by
 have H:=hide h
 have HN:=hide hN
 clear h hN
 go_enter Tryz.func156,Tryz.ntmps156
 go_wp2_with fail
 go_ret
 exact got_none HN.out H.out (Grown.refl _ _) (Nat.le_refl _)
end
section
variable {w : World}
theorem rPub22_any (who:Int) (w:World):Calls Tryz.prog 21 #[.int .i64 who] w (Says (txt (tPub (tKey who))) w):=by
 have HK:=hide (rKey_any who w)
 have HP:=hide (fun W=>rPub_any (tKey_fine who) W)
 go_enter Tryz.func21,Tryz.ntmps21
 go_wp2_with fail
 refine HK.out.mono ?_
 rintro e w1 ⟨rfl,hb1⟩
 go_wp2_with fail
 refine (HP.out _).mono ?_
 rintro e w2 ⟨rfl,hb2⟩
 go_wp2_with fail
 go_ret
 exact ⟨rfl,hb1.trans (hb2.mono hb1.size)⟩
end
def DataP (B:Nat) (w:World) (g:Nat) (T:List Tm) (S:Nat→Prop) (os:List (Option Tm)) (e:Ending) (w':World):Prop :=
 ∃T' S' v,e=.returned v∧IdO w.heap.size w' T' os v S'∧T <+: T'∧T'.length≤T.length+os.length∧Ar B w' g T' S'∧Grown S w S' w'
structure DatI (B:Nat) (w:World) (g:Nat) (T:List Tm) (S:Nat→Prop) (os:List (Option Tm)) (i:Nat) (wr:World) (T':List Tm) (S':Nat→Prop) (v:Value):Prop where
 ar:Ar B wr g T' S'
 grown:Grown S w S' wr
 pre:T <+: T'
 few:T'.length≤T.length+i
 ids:IdO w.heap.size wr T' (os.take i) v S'
section
variable {B g : Nat} {w : World} {T : List Tm} {S : Nat → Prop}
theorem sdata_any (h:Use B w g T S) {A:Option Addr} {c lo:Nat} {ss:List ByteArray} (hs:Sl lo w 1 A ss.length (ss.map Value.string)) (hlo:∀i,S i→i<lo) (hz:∀s∈ss,s.size≤1000000) (hl:ss.length≤1000) (hT:T.length+ss.length≤1000000000) :
    Calls Tryz.prog 158 #[.pointer (some ⟨g,0,none⟩),.slice A ss.length c] w (DataP B w g T S (ss.map tData)):=by
  have HU:=hide h
  have HL:=hide hs
  have Hz:=hide hz
  have Hlo:=hide hlo
  have HI0:Hid (DatI B w g T S (ss.map tData) 0 w T S (.slice none 0 0)):=⟨h.ar,Grown.refl _ _,List.prefix_refl _,Nat.le_refl _,ido_nil _ _ _ _⟩
  clear h hs hz hlo
  go_enter Tryz.func158,Tryz.ntmps158
  go_wp2_with fail
  go_loopw [10,5] (fun vi v wr=>∃(i:Nat) (T':List Tm) (S':Nat→Prop),vi=.int .i64 i∧i≤ss.length∧DatI B w g T S (ss.map tData) i wr T' S' v) (fun vi _ _=>ss.length - (intOf vi).toNat)
  case atStart=>exact ⟨0,T,S,rfl,Nat.zero_le _,HI0.out⟩
  case round =>
    obtain ⟨i,T',S',rfl,hi,hI⟩:=hrel
    have HI:=hide hI
    obtain ⟨A1,c1,hv⟩:=hI.ids.sl
    have hml:((ss.map tData).take i).length=i:=by rw [List.length_take,List.length_map];omega
    rw [hml] at hv
    subst hv
    have hwz:=hI.grown.size
    by_cases hlt:i<ss.length
    · have hii:(i:Int)<ss.length:=by omega
      obtain ⟨ad,u,rfl,hlb,hab,hu,hc0⟩:=HL.out.at_ (k:=i) hlt
      have hcell:=hI.grown.outs.cell hc0 (by rw [block_of_add];intro h9;have:=Hlo.out _ h9;omega)
      rw [List.getElem?_map,List.getElem?_eq_getElem hlt] at hu
      simp only [Option.map_some,Option.some.injEq] at hu
      subst hu
      have hsz:=Hz.out _ (List.getElem_mem hlt)
      have hUr:Use B wr g T' S':=HU.out.grown hI.grown hI.ar (by have:=hI.few;omega)
      have HD:=hide (aData_any hUr hsz)
      have hsn:(ss.map tData).take (i+1)=(ss.map tData).take i++[tData ss[i]]:=by
        rw [List.take_succ_eq_append_getElem (by rw [List.length_map];exact hlt),List.getElem_map]
      have Hsn:=hide hsn
      obtain ⟨iI,hiI,hI0,hI1,hI2⟩:=info_parts infoIDr
      clear hc0 hsn hUr hI
      generalize ss[i]=s at HD Hsn hcell hsz
      go_wp2_with (first
        | (go_at_call 25;refine HD.out.mono ?_;rintro e wx ⟨T2,n2,S2,rfl,hp,hA2,hG⟩;
           have hX:=HI.out.ids.grown hG hp.pre;obtain ⟨ns,ho1,hidn⟩:=hX.ids;rw [hml] at ho1;have hbx:=hG.size)
        | (at_builtin;refine wpList_append_any _ rfl (.tmp 14) (.tmp 18) _ rfl w.heap.size 38 iI (.int .i64 0) 1 8 Tryz.underlying111 hiI hI0 hI1 hI2 rfl (by decide) _ _ _ rfl (ho1.alloc _) _ (some ⟨_,0,none⟩) 1 1 [.int .i64 n2] rfl (reads_blk (Blk.new _ _ _) rfl) (by simp [Value.oneCell']) (by unfold maxLen;omega) (by omega) (by simp;omega) ?_;intro v6 w6 hown6 hgr6 hor6)
        | fail)
      have hIo:=HI.out
      have k0:Kp B w g T2 S S2 wx:=⟨hA2,hIo.grown.trans hG⟩
      have k1:=k0.step (only_alloc (only_refl wx none) (.cells #[.int .i64 n2] 38)) (fun b e=>by cases e)
      have k2:=k1.step hgr6 (fun b e=>⟨(ho1.lt b e).1,hX.out b e⟩)
      have hsl:((ss.map tData).take (i+1)).length=i+1:=by rw [Hsn.out,List.length_append,hml];rfl
      have hidn2:=hidn.snoc hp.idn
      have hSx:=hA2.sL
      refine ⟨⟨i+1,T2,S2,by go_num,by omega,k2.ar,k2.grown,hIo.pre.trans hp.pre,by have:=hp.len;have:=hIo.few;omega,⟨ns++[n2],?_,?_⟩,?_⟩,by simp [intOf];omega⟩
      · rw [hsl];simpa using hown6
      · rw [Hsn.out];exact hidn2
      · exact at_new hor6 hX.out (fun i hi=>by have:=hSx i hi;simp;omega)
    · obtain rfl:i=ss.length:=by omega
      have hii:¬ (ss.length:Int)<ss.length:=by omega
      have hX:=HI.out.ids
      rw [List.take_of_length_le (by simp)] at hX
      go_wp2
      go_ret
      exact ⟨T',S',_,rfl,hX,HI.out.pre,by simpa using HI.out.few,HI.out.ar,HI.out.grown⟩
end
end Go.Proofs.YtkfnepnghnicoaaGreatDoor
