/- Several of my texts in one: MakesD, Fault, Fr, Sign, Rdr, RdrS, RdrB, RdrC, RdrD, SignR, DatA. -/
import Derived.Test.YtnhekaepgpbijaaGreatDoorJChnG
import Derived.Test.YtnhekaepgpbijaaGreatDoorJMakeAG
import Derived.Test.YtnhekaepgpbijaaGreatDoorJAsG
set_option linter.unusedVariables false
set_option linter.unusedSimpArgs false
set_option maxHeartbeats 40000000
set_option maxRecDepth 100000
namespace Go.Proofs.YtnhekaepgpbijaaGreatDoor
open Go.RowKit Go.ChangeShapes Go.WideShapes Go.Sort
def jL (T:List Tm) (ms:List (Option Tm)) (ns:List Int):Prop:=ns.length=ms.length∧∀(i:Nat) (o:Option Tm) (n:Int),ms[i]?=some o→ns[i]?=some n→Idn T o n
theorem Bc (T:List Tm):jL T [] []:=⟨rfl,fun i o n h=>by simp at h⟩
theorem jL.pre {T T':List Tm} {ms:List (Option Tm)} {ns:List Int} (h:jL T ms ns) (hp:T <+: T'):jL T' ms ns:=⟨h.1,fun i o n h1 h2=>(h.2 i o n h1 h2).pre hp⟩
theorem jL.snoc {T:List Tm} {ms:List (Option Tm)} {ns:List Int} {o:Option Tm} {n:Int} (h:jL T ms ns) (hn:Idn T o n):jL T (ms++[o]) (ns++[n]):=by
 refine ⟨by simp [h.1],fun i o' n' h1 h2=>?_⟩;rcases Nat.lt_or_ge i ms.length with hlt | hge
 ·rw [List.getElem?_append_left hlt] at h1
  rw [List.getElem?_append_left (by rw [h.1];exact hlt)] at h2;exact h.2 i o' n' h1 h2
 ·have h3:=(List.getElem?_eq_some_iff.1 h1).1
  simp only [List.length_append,List.length_cons,List.length_nil] at h3;obtain rfl:i=ms.length:=by omega
  rw [List.getElem?_append_right (Nat.le_refl _),Nat.sub_self] at h1;rw [←h.1,List.getElem?_append_right (Nat.le_refl _),Nat.sub_self] at h2;simp only [List.getElem?_cons_zero,Option.some.injEq] at h1 h2;subst h1 h2;exact hn
theorem jL.args {T:List Tm} {ms:List (Option Tm)} {ns:List Int} (h:jL T ms ns):ns.map (arg T)=ms:=by
 refine List.ext_getElem? fun i=>?_
 rw [List.getElem?_map]
 by_cases hi:i<ms.length
 ·have h1:=List.getElem?_eq_getElem hi
  have h2:=List.getElem?_eq_getElem (l:=ns) (i:=i) (by rw [h.1];exact hi);rw [h1,h2];show some _=_;rw [(h.2 i _ _ h1 h2).1]
 ·rw [List.getElem?_eq_none (l:=ns) (by rw [h.1];omega),List.getElem?_eq_none (by omega)]
  rfl
theorem yZ:(Tryz.prog.info? 39).map (fun i=>(i.zero,i.size,i.bytes))=some (some (.int .i64 0),1,8):=by kernel_rfl
theorem Grown.outs {S S':Nat→Prop} {w w':World} (h:Grown S w S' w'):cK S w w':=⟨h.os,h.tape,h.output,h.size,h.block⟩
theorem Grown.keepNew {S S2:Nat→Prop} {w wx wz:World} {row:Option Nat} (h:Grown S w S2 wx) (k:wx.grownBy wz row) (hr:∀b,row=some b→w.heap.size≤b):Grown S w S2 wz :=
 ⟨k.os.trans h.os,k.tape.trans h.tape,k.output.trans h.output,Nat.le_trans h.size k.size,fun i hi hn=>(k.block i (Nat.lt_of_lt_of_le hi h.size) (fun e=>by have:=hr i e.symm;omega)).trans (h.block i hi hn),h.sub,h.new⟩
theorem at_new {v v':Value} {S:Nat→Prop} {n:Nat} (h:v'.ownBlock=v.ownBlock∨v'.ownBlock=some n) (hv:∀i,v.ownBlock=some i→¬ S i) (hn:∀i,S i→i<n):∀i,v'.ownBlock=some i→¬ S i:=by
 intro i hi hs;rcases h with h | h
 ·exact hv i (h.symm.trans hi) hs
 ·rw [h] at hi
  cases hi
  have:=hn _ hs;omega
structure Kp (B:Nat) (w:World) (g:Nat) (T:List Tm) (S0 S:Nat→Prop) (W:World):Prop where
 ar:Ar B W g T S
 grown:Grown S0 w S W
theorem Kp.step {B g:Nat} {w wx W:World} {T:List Tm} {S0 S:Nat→Prop} {row:Option Nat} (h:Kp B w g T S0 S wx) (k:wx.grownBy W row) (hr:∀b,row=some b→w.heap.size≤b∧¬ S b):Kp B w g T S0 S W :=
 ⟨h.ar.kept k fun b e=>(hr b e).2,h.grown.keepNew k fun b e=>(hr b e).1⟩
structure IdO (B0:Nat) (w:World) (T:List Tm) (ms:List (Option Tm)) (v:Value) (S:Nat→Prop):Prop where
 ids:∃ns,w.ownsRow B0 39 1 v ms.length (ns.map (Value.int .i64))∧jL T ms ns
 out:∀i,v.ownBlock=some i→¬ S i
section
variable {B0 : Nat} {w w' : World} {T T' : List Tm} {ms : List (Option Tm)} {v : Value} {S S' : Nat → Prop}
theorem yH (B0:Nat) (w:World) (T:List Tm) (S:Nat→Prop):IdO B0 w T [] (.slice none 0 0) S :=
 ⟨⟨[],World.ownsRow_nil _ _ _ _,Bc _⟩,fun i hi=>by simp [Value.ownBlock] at hi⟩
theorem IdO.sl (h:IdO B0 w T ms v S):∃A c,v=.slice A ms.length c:=by
 obtain ⟨⟨ns,h1,_⟩,_⟩:=h;exact gH h1
theorem IdO.grown (h:IdO B0 w T ms v S) (hg:Grown S w S' w') (hp:T <+: T'):IdO B0 w' T' ms v S':=by
 obtain ⟨⟨ns,h1,h2⟩,h3⟩:=h;refine ⟨⟨ns,hg.outs.own h1 h3,h2.pre hp⟩,fun i hi hs=>?_⟩;rcases hg.new i hs with h6 | h6
 ·exact h3 i hi h6
 ·have:=(h1.lt i hi).2
  omega
theorem IdO.below (h:IdO B0 w T ms v S) (hb:Below w.heap.size w w'):IdO B0 w' T ms v S:=h.grown (Grown.of_below hb) (List.prefix_refl _)
theorem IdO.ids_ (h:IdO B0 w T ms v S):∃ns,Ids w v ns∧jL T ms ns:=by
 obtain ⟨⟨ns,h1,h2⟩,_⟩:=h;exact ⟨ns,zt h2.1.symm h1,h2⟩
end
end Go.Proofs.YtnhekaepgpbijaaGreatDoor
namespace Go.Proofs.YtnhekaepgpbijaaGreatDoor
open Go.RowKit
structure Flt (w:World) (b1 b2:Nat) (s1 s2:ByteArray) (k:Int):Prop where
 q1:Blk w b1 170 #[.string s1,.iface 168 (.pointer (some ⟨b2,0,none⟩))]
 q2:Blk w b2 170 #[.string s2,.iface 43 (.int .i64 k)]
theorem Flt.below {w w':World} {b1 b2:Nat} {s1 s2:ByteArray} {k:Int} (h:Flt w b1 b2 s1 s2 k) (hb:Below w.heap.size w w'):Flt w' b1 b2 s1 s2 k:=⟨h.q1.below hb h.q1.lt,h.q2.below hb h.q2.lt⟩
end Go.Proofs.YtnhekaepgpbijaaGreatDoor
namespace Go.Proofs.YtnhekaepgpbijaaGreatDoor
open Go.RowKit Go.ChangeShapes Go.WideShapes Go.Sort
structure Fr (B g:Nat) (w:World) (T:List Tm) (S:Nat→Prop) (bs:List (Nat × TypeId × Array Value)) (W:World):Prop where
 bel:Below w.heap.size w W
 use:Use B W g T S
 wB:w.heap.size≤B
 blks:∀x∈bs,Blk W x.1 x.2.1 x.2.2∧¬ S x.1
section
variable {B g : Nat} {w W W' : World} {T T' : List Tm} {S S' : Nat → Prop} {bs : List (Nat × TypeId × Array Value)}
theorem Grown.notin2 (h:Grown S W S' W') {b:Nat} (hb:¬ S b) (hlt:b<W.heap.size):¬ S' b:=fun h2=>by
 rcases h.new b h2 with h3 | h3
 ·exact hb h3
 ·omega
theorem Fr.below (h:Fr B g w T S bs W) (hb:Below W.heap.size W W'):Fr B g w T S bs W' :=
 ⟨h.bel.trans (hb.mono h.bel.size),h.use.below hb,h.wB,fun x hx=>⟨(h.blks x hx).1.below hb (h.blks x hx).1.lt,(h.blks x hx).2⟩⟩
theorem Fr.grown (h:Fr B g w T S bs W) (hG:Grown S W S' W') (hA:Ar B W' g T' S') (hf:T'.length≤1000000000):Fr B g w T' S' bs W' :=
 ⟨h.bel.trans ((hG.below h.use.base h.use.ar.sB).mono h.wB),h.use.grown hG hA hf,h.wB,fun x hx=>⟨hG.outs.blk (h.blks x hx).1 (h.blks x hx).2,hG.notin2 (h.blks x hx).2 (h.blks x hx).1.lt⟩⟩
theorem Fr.new (h:Fr B g w T S bs W) (t:TypeId) (cs:Array Value):Fr B g w T S ((W.heap.size,t,cs) :: bs) (W.alloc (.cells cs t)):=by
 have h2:=h.below (aZ (.cells cs t));refine ⟨h2.bel,h2.use,h2.wB,fun x hx=>?_⟩;rcases List.mem_cons.1 hx with rfl | hx
 ·exact ⟨Blk.new _ _ _,fun hc=>by have:=h.use.ar.sL _ hc;simp at this⟩
 ·exact h2.blks x hx
theorem Fr.drop (h:Fr B g w T S bs W) {bs':List (Nat × TypeId × Array Value)} (hs:∀x∈bs',x∈bs):Fr B g w T S bs' W:=⟨h.bel,h.use,h.wB,fun x hx=>h.blks x (hs x hx)⟩
theorem Fr.blk {b:Nat} {t:TypeId} {cs:Array Value} (h:Fr B g w T S bs W) (hx:(b,t,cs)∈bs):Blk W b t cs:=(h.blks _ hx).1
end
def TH (B:Nat) (w:World) (g:Nat) (T:List Tm) (S:Nat→Prop) (o:Option Tm) (m:Nat) (e:Ending) (w':World):Prop :=
 ∃T' n S',e=.returned (.int .i64 n)∧Idn T' o n∧T <+: T'∧T'.length≤T.length+m∧Ar B w' g T' S'∧Grown S w S' w'
section
variable {B g : Nat} {w : World} {T : List Tm} {S : Nat → Prop}
theorem Done.s {o:Option Tm} {e:Ending} {w':World} (h:Done B w g T S o e w'):TH B w g T S o 1 e w':=by
 obtain ⟨T',n,S',rfl,hp,hA,hG⟩:=h;exact ⟨T',n,S',rfl,hp.idn,hp.pre,hp.len,hA,hG⟩
end
def Bk (w:World) (b g:Nat) (s:ByteArray) (p:Nat):Prop:=Blk w b 178 #[.pointer (some ⟨g,0,none⟩),.string s,.int .i64 p]
section
variable {w wr : World} {b g : Nat} {s : ByteArray} {p : Nat}
theorem Bk.set_ (h:Bk w b g s p) (q:Nat):Bk (w.setCell ⟨b,2,none⟩ (.int .i64 q)) b g s q:=by
 have:=Blk.set_ (cs:=#[.pointer (some ⟨g,0,none⟩),.string s,.int .i64 p]) h 2 (.int .i64 q);simpa [Bk] using this
theorem Bk.drewN (h:Bk w b g s p) (n:Nat):Bk (w.drewN n) b g s p:=Blk.below h (below_drewN (Below.refl _ _) n) (Blk.lt h)
def B1 (s:ByteArray) (p:Nat) (b g:Nat) (w:World) (e:Ending) (w':World):Prop :=
 ∃p',(if h:p<s.size then e=.returned (.tuple #[.int .u8 s[p].toNat,.bool true])∧p'=p+1 else e=.returned (.tuple #[.int .u8 0,.bool false])∧p'=p)∧Bk w' b g s p'∧w.grownBy w' (some b)
theorem JI (h:Bk w b g s p) (hs:s.size≤1000000) (hp:p≤s.size):Calls Tryz.prog 166 #[.pointer (some ⟨b,0,none⟩)] w (B1 s p b g w):=by
 have H:=hide h;have c1:w.cell? ⟨b,1,none⟩=some (.string s):=Blk.cell h 1;have c2:w.cell? ⟨b,2,none⟩=some (.int .i64 p):=Blk.cell h 2;have f2:=Blk.frozen h 2;clear h
 by_cases hlt:p<s.size
 ·have hle:¬ (s.size:Int)≤p:=by omega
  have w1:IntKind.i64.wrap ((p:Int)+1)=((p+1:Nat):Int):=by rw [IntKind.wrap_i64];omega
  have d1:(w.setCell ⟨b,2,none⟩ (.int .i64 ((p+1:Nat):Int))).cell? ⟨b,1,none⟩=some (.string s):=Blk.cell (H.out.set_ (p+1)) 1;have d2:(w.setCell ⟨b,2,none⟩ (.int .i64 ((p+1:Nat):Int))).cell? ⟨b,2,none⟩=some (.int .i64 ((p+1:Nat):Int)):=Blk.cell (H.out.set_ (p+1)) 2;go_enter Tryz.func166,Tryz.ntmps166;go_wp2;go_quiet (fail);go_wp2;go_quiet (fail);go_wp2;go_ret2;exact ⟨p+1,by rw [dif_pos hlt];exact ⟨rfl,rfl⟩,((H.out.drewN _).set_ (p+1)).drewN _,aL (ag (aL (aj _ _) _) (.inl rfl) _) _⟩
 ·have hle:(s.size:Int)≤p:=by omega
  go_enter Tryz.func166,Tryz.ntmps166;go_wp2;go_quiet (fail);go_wp2;go_ret2;exact ⟨p,by rw [dif_neg hlt];exact ⟨rfl,rfl⟩,H.out.drewN _,aL (aj _ _) _⟩
theorem zi (h:Bk w b g s p) (hs:s.size≤1000000) (hp:p≤s.size) (hn:s.size<p+4):Calls Tryz.prog 175 #[.pointer (some ⟨b,0,none⟩)] w fun e w'=>e=.returned (.tuple #[.int .i64 0,.bool false])∧Bk w' b g s p∧w.grownBy w' (some b):=by
 have H:=hide h;have c1:w.cell? ⟨b,1,none⟩=some (.string s):=Blk.cell h 1;have c2:w.cell? ⟨b,2,none⟩=some (.int .i64 p):=Blk.cell h 2;clear h;have hi:((s.size:Int) - (p:Int))<4:=by omega
 go_enter Tryz.func175,Tryz.ntmps175;go_wp2;go_quiet (fail);go_wp2;go_ret2;exact ⟨rfl,H.out.drewN _,aL (aj _ _) _⟩
def nbP (l:List UInt8) (i:Nat):Nat:=(l.take i).foldl (fun n c=>n*256+c.toNat) 0
theorem F8 {l:List UInt8} {i:Nat} {c:UInt8} (h:l[i]?=some c):nbP l (i+1)=nbP l i*256+c.toNat:=by
 unfold nbP;rw [List.take_add_one,h];simp
theorem SY (l:List UInt8) (i:Nat):nbP l i<256 ^ i:=by
 induction i with
 | zero=>simp [nbP]
 | succ i ih =>
  cases h:l[i]? with
  | none =>
   have:nbP l (i+1)=nbP l i:=by unfold nbP;rw [List.take_add_one,h];simp
   rw [this,Nat.pow_succ];omega
  | some c =>
   rw [F8 h,Nat.pow_succ];have:=c.toNat_lt;omega
theorem Pt {l:List UInt8} (h:4≤l.length):nbP l 4=n4 l:=by
 match l,h with
 | x :: y :: z :: u :: r,_ =>
  simp only [nbP,List.take_succ_cons,List.take_zero,List.foldl_cons,List.foldl_nil,n4];omega
theorem RA {n c:Nat} (hn:n<16777216) (hc:c<256):bits .or .i64 ((n*256:Nat):Int) (c:Int)=((n*256+c:Nat):Int):=by
 have h:=bits_join .i64 63 (by decide) (fun x h0 h1=>by rw [IntKind.wrap_i64];omega) 8 ((n*256:Nat):Int) (c:Int) (by omega) (by omega) (by omega) (by omega) (by omega) (by omega);rw [h];omega
theorem lC (h:Bk w b g s p) (hs:s.size≤1000000) (hn:p+4≤s.size):Calls Tryz.prog 175 #[.pointer (some ⟨b,0,none⟩)] w fun e w'=>e=.returned (.tuple #[.int .i64 (n4 (s.data.toList.drop p)),.bool true])∧Bk w' b g s (p+4)∧w.grownBy w' (some b):=by
 have H:=hide h;have c1:w.cell? ⟨b,1,none⟩=some (.string s):=Blk.cell h 1;have c2:w.cell? ⟨b,2,none⟩=some (.int .i64 p):=Blk.cell h 2;clear h;have hi:¬ ((s.size:Int) - (p:Int))<4:=by omega
 go_enter Tryz.func175,Tryz.ntmps175;go_wp2;go_quiet (fail);go_wp2_with fail
 go_loopw [16,4] (fun vi vn wr=>∃i:Nat,vi=.int .i64 i∧i≤4∧vn=.int .i64 (nbP (s.data.toList.drop p) i)∧Hid (Bk wr b g s (p+i))∧Hid (w.grownBy wr (some b))) (fun vi _ _=>4 - (intOf vi).toNat)
 case atStart=>exact ⟨0,rfl,by omega,rfl,hide (H.out.drewN _),hide (aL (aj _ _) _)⟩
 case round =>
  obtain ⟨i,rfl,hi4,rfl,hB,hG⟩:=hrel
  by_cases h4:i<4
  ·have hii:(i:Int)<4:=by omega
   obtain ⟨q,hq⟩:∃q,q=p+i:=⟨_,rfl⟩
   rw [←hq] at hB;have e1:wr.cell? ⟨b,1,none⟩=some (.string s):=Blk.cell hB.out 1;have e2:wr.cell? ⟨b,2,none⟩=some (.int .i64 q):=Blk.cell hB.out 2;have f2:=Blk.frozen hB.out 2;have hb:=SY (s.data.toList.drop p) i;have hlt:q<s.size:=by omega
   have hpw:256 ^ i≤16777216:=by
    obtain rfl | rfl | rfl | rfl:i=0∨i=1∨i=2∨i=3:=by omega
    all_goals decide
   have hc:(s.data.toList.drop p)[i]?=some (s[q]):=by
    rw [List.getElem?_drop,← hq,List.getElem?_eq_getElem (by exact hlt)];rfl
   have Hst:=hide (F8 hc);have hclt:=s[q].toNat_lt;generalize nbP (s.data.toList.drop p) i=n at Hst hb ⊢;have hqi:(q:Int)<s.size:=by omega
   have hq0:(0:Int)≤q:=by omega
   have w8:IntKind.i64.wrap ((n:Int)*256)=((n*256:Nat):Int):=by rw [IntKind.wrap_i64];omega
   have wq:IntKind.i64.wrap ((q:Int)+1)=((q+1:Nat):Int):=by rw [IntKind.wrap_i64];omega
   have Hq:=hide hq;have Ho:=hide (RA (n:=n) (c:=s[q].toNat) (by omega) hclt);clear hq hc;go_wp2;go_quiet (fail);go_wp2;refine ⟨⟨i+1,by go_num,by omega,?_,hide ?_,hide ?_⟩,by simp [intOf];omega⟩
   ·rw [Hst.out,show ((n:Int)*256)=((n*256:Nat):Int) by omega,Ho.out]
   ·rw [←Nat.add_assoc,← Hq.out]
    exact (hB.out.drewN _).set_ (q+1)
   ·exact ag (aL hG.out _) (.inl rfl) _
  ·obtain rfl:i=4:=by omega
   have HN:=hide (Pt (l:=s.data.toList.drop p) (by rw [List.length_drop,aD];omega));go_wp2;go_ret2;exact ⟨by rw [HN.out];rfl,hB.out,hG.out⟩
theorem C8 (h:Bk w b g s p) (hs:s.size≤1000000) (hp:p≤s.size) (h4:s.size<p+4):Calls Tryz.prog 171 #[.pointer (some ⟨b,0,none⟩)] w fun e w'=>e=.returned (.tuple #[.string ⟨#[]⟩,.bool false])∧Bk w' b g s p∧w.grownBy w' (some b):=by
 have HN:=hide (zi h hs hp h4);clear h;go_enter Tryz.func171,Tryz.ntmps171;go_wp2_with (go_at_call 175;refine HN.out.mono ?_;rintro e w1 ⟨rfl,hB1,hG1⟩);refine wp_region_quiet_lit (by kernel_rfl) (by kernel_rfl) ?_
 repeat (first | go_big_quiet_skip | quiet_step (fail))
 refine wpQuiet_nil ?_;intro _ hw';obtain ⟨nq,hw''⟩:=hw';subst hw'';go_wp2;go_ret2;exact ⟨rfl,hB1.drewN _,aL hG1 _⟩
theorem Db (h:Bk w b g s p) (hs:s.size≤1000000) {n:Nat} (hn:n=n4 (s.data.toList.drop p)) (h4:p+4≤s.size) (h5:s.size<p+4+n):Calls Tryz.prog 171 #[.pointer (some ⟨b,0,none⟩)] w fun e w'=>e=.returned (.tuple #[.string ⟨#[]⟩,.bool false])∧Bk w' b g s (p+4)∧w.grownBy w' (some b):=by
 have HN:=hide (lC h hs h4);rw [←hn] at HN;have hi:(s.size:Int) - ((p+4:Nat):Int)<n:=by omega
 generalize p+4=q at HN hi h4 h5 ⊢;have hi2:(s.size:Int)<(n:Int)+q:=by omega
 have hi3:(s.size:Int)<(q:Int)+n:=by omega
 have hi4:s.size<n+q:=by omega
 have hi5:¬ n≤s.size - q∨True:=.inr trivial;have wq:IntKind.i64.wrap ((s.size:Int) - q)=(s.size:Int) - q:=by rw [IntKind.wrap_i64];omega
 clear h hn h4 hi5;go_enter Tryz.func171,Tryz.ntmps171;go_wp2_with (go_at_call 175;refine HN.out.mono ?_;rintro e w1 ⟨rfl,hB1,hG1⟩;have e1:w1.cell? ⟨b,1,none⟩=some (.string s):=Blk.cell hB1 1;have e2:w1.cell? ⟨b,2,none⟩=some (.int .i64 q):=Blk.cell hB1 2);go_quiet (fail);go_wp2;go_ret2;exact ⟨rfl,hB1.drewN _,aL hG1 _⟩
theorem Ed (h:Bk w b g s p) (hs:s.size≤1000000) {n:Nat} (hn:n=n4 (s.data.toList.drop p)) (h5:p+4+n≤s.size):Calls Tryz.prog 171 #[.pointer (some ⟨b,0,none⟩)] w fun e w'=>e=.returned (.tuple #[.string (bs ((s.data.toList.drop (p+4)).take n)),.bool true])∧Bk w' b g s (p+4+n)∧w.grownBy w' (some b):=by
 have HN:=hide (lC h hs (by omega));rw [←hn] at HN;have He:=hide (show s.extract (p+4) (p+4+n)=bs ((s.data.toList.drop (p+4)).take n) by rw [RX];congr 2;omega);generalize p+4=q at HN He h5 ⊢;have hi2:¬ (s.size:Int)<(n:Int)+q:=by omega
 have hi3:¬ (s.size:Int)<(q:Int)+n:=by omega
 have hi4:¬ s.size<n+q:=by omega
 have hi:¬ (s.size:Int) - (q:Int)<n:=by omega
 have wq:IntKind.i64.wrap ((s.size:Int) - q)=(s.size:Int) - q:=by rw [IntKind.wrap_i64];omega
 obtain ⟨q2,hq2⟩:∃q2,q2=q+n:=⟨_,rfl⟩
 have w1':IntKind.i64.wrap ((q:Int)+n)=(q2:Int):=by rw [IntKind.wrap_i64];omega
 have w2':(q:Int)+n=(q2:Int):=by omega
 have w3':(q2:Int) - n=(q:Int):=by omega
 have b1:(0:Int)≤q:=by omega
 have b2:(q:Int)≤q2:=by omega
 have b3:(q2:Int)≤s.size:=by omega
 rw [←hq2] at He h5 ⊢;clear h hn hq2;go_enter Tryz.func171,Tryz.ntmps171;go_wp2_with (go_at_call 175;refine HN.out.mono ?_;rintro e w1 ⟨rfl,hB1,hG1⟩;have e1:w1.cell? ⟨b,1,none⟩=some (.string s):=Blk.cell hB1 1;have e2:w1.cell? ⟨b,2,none⟩=some (.int .i64 q):=Blk.cell hB1 2;have f2:=Blk.frozen hB1 2);go_quiet (fail);go_wp2;go_quiet (fail);go_wp2;go_ret2;exact ⟨by rw [←He.out];rfl,((hB1.drewN _).set_ q2).drewN _,aL (ag (aL hG1 _) (.inl rfl) _) _⟩
end
def SR (b:Nat) (S:Nat→Prop) (i:Nat):Prop:=S i∨i=b
structure Rd (B b g:Nat) (s:ByteArray) (p:Nat) (T:List Tm) (S:Nat→Prop) (W:World):Prop where
 use:Use B W g T S
 bk:Bk W b g s p
 nb:¬ S b
 bB:B≤b
 hp:p≤s.size
 hs:s.size≤131072
 few:T.length+2*(s.size - p)≤900000000
section
variable {B b g p p' : Nat} {s : ByteArray} {T T' : List Tm} {S S' : Nat → Prop} {w w' : World}
theorem Grown.sr (h:Grown S w S' w') (b:Nat):Grown (SR b S) w (SR b S') w' :=
 ⟨h.os,h.tape,h.output,h.size,fun i hi hn=>h.block i hi (fun h2=>hn (.inl h2)),fun i hi=>hi.imp (h.sub i) id,fun i hi=>by
  rcases hi with hi | hi
  ·exact (h.new i hi).imp .inl id
  ·exact .inl (.inr hi)⟩
theorem gm (h:w.grownBy w' (some b)):Grown (SR b S) w (SR b S) w' :=
 ⟨h.os,h.tape,h.output,h.size,fun i hi hn=>h.block i hi (fun e=>hn (.inr (Option.some.inj e))),fun _ h=>h,fun _ h=>.inl h⟩
theorem Rd.sr_lt (h:Rd B b g s p T S w):∀i,SR b S i→i<w.heap.size:=fun i hi=>by
 rcases hi with hi | hi
 ·exact h.use.ar.sL i hi
 ·rw [hi];exact Blk.lt h.bk
theorem Rd.below (h:Rd B b g s p T S w) (hb:Below w.heap.size w w'):Rd B b g s p T S w' :=
 ⟨h.use.below hb,Blk.below h.bk hb (Blk.lt h.bk),h.nb,h.bB,h.hp,h.hs,h.few⟩
theorem Rd.grown (h:Rd B b g s p T S w) (hG:Grown S w S' w') (hA:Ar B w' g T' S') (hf:T'.length+2*(s.size - p)≤900000000):Rd B b g s p T' S' w' :=
 ⟨h.use.grown hG hA (by omega),hG.outs.blk h.bk h.nb,fun h2=>by
  rcases hG.new b h2 with h3 | h3
  ·exact h.nb h3
  ·have:=Blk.lt h.bk;omega,h.bB,h.hp,h.hs,hf⟩
theorem Rd.by_ (h:Rd B b g s p T S w) (hB:Bk w' b g s p') (hG:w.grownBy w' (some b)) (hp:p'≤s.size) (hle:p≤p'):Rd B b g s p' T S w' :=
 ⟨h.use.kept hG (fun i e=>by cases e;exact ⟨h.nb,h.bB⟩),hB,h.nb,h.bB,hp,h.hs,by have:=h.few;omega⟩
theorem Rd.keep {row:Option Nat} (h:Rd B b g s p T S w) (k:w.grownBy w' row) (hr:∀i,row=some i→¬ SR b S i∧B≤i):Rd B b g s p T S w' :=
 ⟨h.use.kept k (fun i e=>⟨fun hc=>(hr i e).1 (.inl hc),(hr i e).2⟩),Blk.grown h.bk k (fun e=>(hr b e.symm).1 (.inr rfl)),h.nb,h.bB,h.hp,h.hs,h.few⟩
theorem Rd.len (h:Rd B b g s p T S w):(s.data.toList.drop p).length=s.size - p:=by rw [List.length_drop,aD]
end
def Got (B b g:Nat) (s:ByteArray) (p0 p:Nat) (T:List Tm) (S:Nat→Prop) (w:World) (e:Ending) (w':World):Prop :=
 ∃T' n S' p' o,e=.returned (.int .i64 n)∧Idn T' o n∧rf s p0 o p'∧Rd B b g s p' T' S' w'∧Grown (SR b S) w (SR b S') w'∧T <+: T'∧T'.length≤T.length+2*(p' - p)+1∧p≤p'
def nI (B b g:Nat) (s:ByteArray) (p:Nat) (T:List Tm) (S:Nat→Prop) (w:World) (e:Ending) (w':World):Prop :=
 ∃T' n S' p' o,e=.returned (.int .i64 n)∧Idn T' o n∧rf s p o p'∧Rd B b g s p' T' S' w'∧Grown (SR b S) w (SR b S') w'∧T <+: T'∧T'.length≤T.length+2*(p' - p)∧p≤p'
def Cb (B b g:Nat) (s:ByteArray) (p n:Nat) (T:List Tm) (S:Nat→Prop) (w:World) (e:Ending) (w':World):Prop :=
 (∃T' S' p',e=.returned (.tuple #[.slice none 0 0,.bool false])∧GG n (s.data.toList.drop p)∧Rd B b g s p' T' S' w'∧Grown (SR b S) w (SR b S') w'∧T <+: T'∧T'.length≤T.length+2*(p' - p)∧p≤p') ∨
 (∃T' S' p' l A c,e=.returned (.tuple #[.slice A n c,.bool true])∧dX l∧l.length=n∧s.data.toList.drop p=encs l++s.data.toList.drop p'∧IdO w.heap.size w' T' (l.map some) (.slice A n c) (SR b S')∧Rd B b g s p' T' S' w'∧Grown (SR b S) w (SR b S') w'∧T <+: T'∧T'.length≤T.length+2*(p' - p)∧p≤p')
structure SN (B b g:Nat) (s:ByteArray) (p i:Nat) (T:List Tm) (S:Nat→Prop) (w:World) (T':List Tm) (S':Nat→Prop) (p':Nat) (l:List Tm) (v:Value) (wr:World):Prop where
 rd:Rd B b g s p' T' S' wr
 grown:Grown (SR b S) w (SR b S') wr
 pre:T <+: T'
 few:T'.length≤T.length+2*(p' - p)
 le:p≤p'
 gds:dX l
 len:l.length=i
 eq:s.data.toList.drop p=encs l++s.data.toList.drop p'
 ids:IdO w.heap.size wr T' (l.map some) v (SR b S')
section
variable {B b g p p' i : Nat} {s : ByteArray} {T T' T2 : List Tm} {S S' S2 : Nat → Prop} {w wr wx : World} {l : List Tm} {v : Value}
theorem Ki (h:Rd B b g s p T S w):SN B b g s p 0 T S w T S p [] (.slice none 0 0) w :=
 ⟨h,Grown.refl _ _,List.prefix_refl _,by omega,Nat.le_refl _,trivial,rfl,by simp [encs],yH _ _ _ _⟩
end
section
variable {B b g p p0 n : Nat} {s : ByteArray} {T : List Tm} {S : Nat → Prop} {w w1 w2 : World} {k a b' : Nat} {s' : ByteArray} {c : UInt8} {s1 : List UInt8}
theorem nV (h1:s.data.toList.drop p0=c :: s1) (hc:c.toNat=240+k) (hH:Hed k a b' s' n s1 (s.data.toList.drop p)) {T1:List Tm} {S1:Nat→Prop} {p1:Nat} (hN:GG n (s.data.toList.drop p)) (hR:Rd B b g s p1 T1 S1 w1) (hG:Grown (SR b S) w (SR b S1) w1) (hp:T <+: T1)
  (hl:T1.length≤T.length+2*(p1 - p)) (hle:p≤p1):Got B b g s p0 p T S w (.returned (.int .i64 (-1))) w1 :=
 ⟨T1,-1,S1,p1,none,rfl,cu _,p9 h1 hc hH hN,hR,hG,hp,by omega,hle⟩
theorem lV (h1:s.data.toList.drop p0=c :: s1) (hc:c.toNat=240+k) (hk:k≤10) (hH:Hed k a b' s' n s1 (s.data.toList.drop p)) {T1:List Tm} {S1:Nat→Prop} {p1:Nat} {l:List Tm} (hg:dX l) (hn:l.length=n) (he:s.data.toList.drop p=encs l++s.data.toList.drop p1)
  (hR:Rd B b g s p1 T1 S1 w1) (hG:Grown (SR b S) w (SR b S1) w1) (hp:T <+: T1) (hl:T1.length≤T.length+2*(p1 - p)) (hle:p≤p1) {o:Option Tm} (ho:ig k a b' s' l o) {e:Ending} (hD:Done B w1 g T1 S1 o e w2) (hpp:p0<p) (hK:T.length+2*(s.size - p0)≤900000000):Got B b g s p0 p T S w e w2:=by
 obtain ⟨T2,m,S2,rfl,hP,hA,hG2⟩:=hD;have h3:=hP.len;have h4:=hR.few;have h5:=hR.hp;exact ⟨T2,m,S2,p1,o,rfl,hP.idn,kr hR.hs h1 hc hk hH hg hn he ho,hR.grown hG2 hA (by omega),hG.trans (hG2.sr b),hp.trans hP.pre,by omega,hle⟩
end
def dM (B b g:Nat) (s:ByteArray) (N:Nat):Prop :=
 ∀(p:Nat) (T:List Tm) (S:Nat→Prop) (w:World),s.size - p<N→Rd B b g s p T S w→Calls Tryz.prog 96 #[.pointer (some ⟨b,0,none⟩)] w (nI B b g s p T S w)
section
variable {B b g p N : Nat} {s : ByteArray} {T : List Tm} {S : Nat → Prop} {w : World}
theorem Mx {s:ByteArray} {p p':Nat} (h:rf s p none p'):NoT (s.data.toList.drop p):=by
 rcases h with h | ⟨t,h,_⟩
 ·exact h.2
 ·cases h
theorem J2 {s:ByteArray} {p p':Nat} {t:Tm} (h:rf s p (some t) p'):good t∧s.data.toList.drop p=enc t++s.data.toList.drop p':=by
 rcases h with h | ⟨t',h,h2⟩
 ·cases h.1
 ·cases h
  exact h2
theorem jZ (IH:dM B b g s N) (h:Rd B b g s p T S w) (hN:s.size - p<N) (n:Nat) (hn:n≤1000) :
    Calls Tryz.prog 242 #[.pointer (some ⟨b,0,none⟩),.int .i64 n] w (Cb B b g s p n T S w):=by
  have HI0:=hide (Ki h);have HB:=hide h.use.base;have HIH:=hide IH;clear h IH;go_enter Tryz.func242,Tryz.ntmps242;go_wp2_with fail
  go_loopw [9,6] (fun vi v wr=>∃(i:Nat) (T':List Tm) (S':Nat→Prop) (p':Nat) (l:List Tm),vi=.int .i64 i∧i≤n∧SN B b g s p i T S w T' S' p' l v wr) (fun vi _ _=>n - (intOf vi).toNat)
  case atStart=>exact ⟨0,T,S,p,[],rfl,Nat.zero_le _,HI0.out⟩
  case round =>
    obtain ⟨i,T',S',p',l,rfl,hi,hI⟩:=hrel;have HI:=hide hI;obtain ⟨A1,c1,hv⟩:=hI.ids.sl;have hml:(l.map some).length=i:=by rw [List.length_map,hI.len]
    rw [hml] at hv;subst hv;have hwz:=hI.grown.size
    by_cases hlt:i<n
    · have hii:(i:Int)<n:=by omega
      have HT:=hide (HIH.out p' T' S' wr (by have:=hI.le;omega) hI.rd);obtain ⟨iI,hiI,hI0,hI1,hI2⟩:=info_parts yZ;clear hI
      go_wp2_with (first
        | (go_at_call 96;refine HT.out.mono ?_;rintro e wx ⟨T2,m,S2,p2,o,rfl,hid,hread,hR2,hG2,hpre,hlen,hle⟩;
           have hX:=HI.out.ids.grown hG2 hpre;obtain ⟨ns,ho1,hidn⟩:=hX.ids;rw [hml] at ho1;have hbx:=hG2.size)
        | (at_builtin;refine aA _ rfl (.tmp 15) (.tmp 17) _ rfl w.heap.size 39 iI (.int .i64 0) 1 8 Tryz.underlying124 hiI hI0 hI1 hI2 rfl (by decide) _ _ _ rfl (ho1.alloc _) _ (some ⟨_,0,none⟩) 1 1 [.int .i64 m] rfl (eQ (Blk.new _ _ _) rfl) (by simp [Value.oneCell']) (by unfold maxLen;omega) (by omega) (by simp;omega) ?_;intro v6 w6 hown6 hgr6 hor6)
        | fail)
      · rename_i hm
        obtain rfl:m=-1:=by simpa using hm
        obtain rfl:=hid.none_iff.1 rfl;have hI:=HI.out;go_ret2;exact .inl ⟨T2,S2,p2,rfl,I5 hI.gds hI.len hlt hI.eq (Mx hread),hR2,hI.grown.trans hG2,hI.pre.trans hpre,by have:=hI.few;have:=hI.le;omega,by have:=hI.le;omega⟩
      · have hI:=HI.out
        obtain ⟨t,rfl⟩:∃t,o=some t:=by
          cases o with
          | some t=>exact ⟨t,rfl⟩
          | none =>
            exfalso;have:=hid.2 rfl;simp_all
        obtain ⟨ht1,ht2⟩:=J2 hread;have k1:=gu (aj wx none) (.cells #[.int .i64 m] 39);have r1:=hR2.keep k1 (fun i e=>by cases e);have r2:=r1.keep hgr6 (fun j e=>⟨hX.out j e,Nat.le_trans HB.out (ho1.lt j e).1⟩);have g1:=((hI.grown.trans hG2).keepNew k1 (fun i e=>by cases e)).keepNew hgr6 (fun j e=>(ho1.lt j e).1);have hsx:=hR2.sr_lt;refine ⟨⟨i+1,T2,S2,p2,l++[t],by go_num,by omega,r2,g1,hI.pre.trans hpre,by have:=hI.few;have:=hI.le;omega,by have:=hI.le;omega,Eg hI.gds ht1,by simp [hI.len],?_,⟨ns++[m],?_,?_⟩,?_⟩,by simp [intOf];omega⟩
        · rw [hI.eq,ht2,iG]
          simp [encs]
        · simpa [hI.len] using hown6
        · simpa using hidn.snoc hid
        · exact at_new hor6 hX.out (fun i hi=>by have:=hsx i hi;simp;omega)
    · obtain rfl:i=n:=by omega
      have hii:¬ (i:Int)<i:=by omega
      go_wp2;go_ret2;have hI:=HI.out;exact .inr ⟨T',S',p',l,A1,c1,rfl,hI.gds,hI.len,hI.eq,hI.ids,hI.rd,hI.grown,hI.pre,hI.few,hI.le⟩
end
section
variable {B b g p N : Nat} {s : ByteArray} {T : List Tm} {S : Nat → Prop} {w w1 : World}
theorem IdO.base {B0 B1:Nat} {ms:List (Option Tm)} {v:Value} (h:IdO B0 w T ms v S) (hb:B1≤B0):IdO B1 w T ms v S:=by
 obtain ⟨⟨ns,h1,h2⟩,h3⟩:=h;exact ⟨⟨ns,lF h1 hb,h2⟩,h3⟩
theorem Cb.from_ {n:Nat} {e:Ending} {w':World} (h:Cb B b g s p n T S w1 e w') (hG:Grown (SR b S) w (SR b S) w1):Cb B b g s p n T S w e w':=by
 rcases h with ⟨T',S',p',h1,h2,h3,h4,h5⟩ | ⟨T',S',p',l,A,c,h1,h2,h3,h4,h5,h6,h7,h8⟩
 ·exact .inl ⟨T',S',p',h1,h2,h3,hG.trans h4,h5⟩
 ·exact .inr ⟨T',S',p',l,A,c,h1,h2,h3,h4,h5.base hG.size,h6,hG.trans h7,h8⟩
def Mq (B b g:Nat) (s:ByteArray) (p:Nat) (T:List Tm) (S:Nat→Prop) (w:World) (e:Ending) (w':World):Prop :=
 ∃p',e=.returned (.tuple #[.slice none 0 0,.bool false])∧Rd B b g s p' T S w'∧Grown (SR b S) w (SR b S) w'∧p≤p'
theorem rq (h:Rd B b g s p T S w) (most:Int) (h4:s.size<p+4):Calls Tryz.prog 178 #[.pointer (some ⟨b,0,none⟩),.int .i64 most] w (Mq B b g s p T S w):=by
 have HN:=hide (zi h.bk (by have:=h.hs;omega) h.hp h4);have H:=hide h;clear h;go_enter Tryz.func178,Tryz.ntmps178;go_wp2_with (go_at_call 175;refine HN.out.mono ?_;rintro e w1 ⟨rfl,hB1,hG1⟩);go_ret2;exact ⟨p,rfl,H.out.by_ hB1 hG1 H.out.hp (Nat.le_refl _),gm hG1,Nat.le_refl _⟩
theorem qR (h:Rd B b g s p T S w) (most:Int) (h4:p+4≤s.size) {n:Nat} (hn:n=n4 (s.data.toList.drop p)) (hm:most<(n:Int)):Calls Tryz.prog 178 #[.pointer (some ⟨b,0,none⟩),.int .i64 most] w (Mq B b g s p T S w):=by
 have HN:=hide (lC h.bk (by have:=h.hs;omega) h4);rw [←hn] at HN;have H:=hide h;clear h hn;go_enter Tryz.func178,Tryz.ntmps178;go_wp2_with (go_at_call 175;refine HN.out.mono ?_;rintro e w1 ⟨rfl,hB1,hG1⟩);go_ret2;exact ⟨p+4,rfl,H.out.by_ hB1 hG1 h4 (by omega),gm hG1,by omega⟩
theorem qU (IH:dM B b g s N) (h:Rd B b g s p T S w) (hN:s.size - p≤N) (most:Int) (h4:p+4≤s.size) {n:Nat} (hn:n=n4 (s.data.toList.drop p)) (hm:(n:Int)≤most) (hn2:n≤1000):Calls Tryz.prog 178 #[.pointer (some ⟨b,0,none⟩),.int .i64 most] w (Cb B b g s (p+4) n T S w):=by
 have HNu:=hide (lC h.bk (by have:=h.hs;omega) h4);rw [←hn] at HNu;have H:=hide h;have HIH:=hide IH;have hm':¬ (most<(n:Int)):=by omega
 clear h hn IH;go_enter Tryz.func178,Tryz.ntmps178
 go_wp2_with (first
  | (go_at_call 175;refine HNu.out.mono ?_;rintro e w1 ⟨rfl,hB1,hG1⟩;have hR1:=H.out.by_ hB1 hG1 h4 (by omega);have HS:=hide (jZ HIH.out hR1 (by omega) n hn2))
  | fail)
 refine HS.out.mono ?_;rintro e w2 hS;have hS:=hS.from_ (gm hG1);rcases hS with ⟨T',S',p',rfl,h2⟩ | ⟨T',S',p',l,A,c,rfl,h2⟩
 ·go_wp2_with fail
  go_ret2;exact .inl ⟨T',S',p',rfl,h2⟩
 ·go_wp2_with fail
  go_ret2;exact .inr ⟨T',S',p',l,A,c,rfl,h2⟩
theorem jc {B0 n:Nat} {A:Option Addr} {c:Nat} {l:List Tm} (h:IdO B0 w T (l.map some) (.slice A n c) S) (hn:l.length=n) (h0:0<n):∃gb,A=some ⟨gb,0,none⟩∧gb<w.heap.size∧∀(k:Nat) (t:Tm),l[k]?=some t→∃m:Int,w.cell? ⟨gb,k,none⟩=some (.int .i64 m)∧Idn T (some t) m:=by
 obtain ⟨⟨ns,h1,h2⟩,h3⟩:=h;have hl:(l.map some).length=n:=by simpa using hn
 rw [hl] at h1;obtain ⟨gb,cap,hv,_,hlt⟩:=h1.form h0;have hA:A=some ⟨gb,0,none⟩:=by injection hv
 refine ⟨gb,hA,hlt,fun k t hk=>?_⟩;have hkl:=(List.getElem?_eq_some_iff.1 hk).1;have hns:k<ns.length:=by rw [h2.1];simpa using hkl
 have hc:=h1.cells (g:=gb) (by rw [hv];rfl) k (.int .i64 ns[k]) (by rw [List.getElem?_map,List.getElem?_eq_getElem hns];rfl);rw [bJ] at hc;exact ⟨ns[k],hc,h2.2 k (some t) _ (by rw [List.getElem?_map,hk];rfl) (List.getElem?_eq_getElem hns)⟩
theorem kQ {n:Int} {t:Tm} (h:Idn T (some t) n):arg T n=some t:=h.1

theorem Ow (h:Use B w g T S) (hbk:Bk w b g s p) {bx gb c:Nat} (hx:Blk w bx 176 #[.pointer (some ⟨b,0,none⟩)]) {n0:Int} (c0:w.cell? ⟨gb,0,none⟩=some (.int .i64 n0)) (nx:¬ S bx) (nb:¬ S b) (ng:¬ S gb) :
  Calls Tryz.prog 168 #[.slice (some ⟨gb,0,none⟩) 1 c,.pointer (some ⟨bx,0,none⟩)] w (Done B w g T S (gG (arg T n0))):=by
 have HP:=hide (fun (W:World) (hb:Below w.heap.size w W)=>uh (h.below hb) n0);have x0:w.cell? ⟨bx,0,none⟩=some (.pointer (some ⟨b,0,none⟩)):=hx.cell 0;have b0:w.cell? ⟨b,0,none⟩=some (.pointer (some ⟨g,0,none⟩)):=Blk.cell hbk 0;clear h hbk hx;go_enter Tryz.func168,Tryz.ntmps168;go_upto_region 1 with fail
 go_region_held3 (fun W=>W.cell? ⟨bx,0,none⟩=some (.pointer (some ⟨b,0,none⟩))∧W.cell? ⟨b,0,none⟩=some (.pointer (some ⟨g,0,none⟩))∧W.cell? ⟨gb,0,none⟩=some (.int .i64 n0))
  (exact ⟨x0,b0,c0⟩)
  (first
   | (go_at_call 14;refine (HP.out _ (by exact aa)).mono ?_;rintro e w' ⟨T',n,S',rfl,hp,hA,hG⟩;replace x0:=hG.outs.cell x0 nx;replace b0:=hG.outs.cell b0 nb;replace c0:=hG.outs.cell c0 ng)
   | fail)
 all_goals go_wp2_with fail
 all_goals go_ret
 all_goals exact ⟨T',n,S',rfl,hp,hA,(Grown.of_below (by exact aa)).trans hG⟩
theorem PY (h:Use B w g T S) (hbk:Bk w b g s p) {bx gb c:Nat} (hx:Blk w bx 176 #[.pointer (some ⟨b,0,none⟩)]) {n0:Int} (c0:w.cell? ⟨gb,0,none⟩=some (.int .i64 n0)) (nx:¬ S bx) (nb:¬ S b) (ng:¬ S gb) :
  Calls Tryz.prog 169 #[.slice (some ⟨gb,0,none⟩) 1 c,.pointer (some ⟨bx,0,none⟩)] w (Done B w g T S (kZ (arg T n0))):=by
 have HP:=hide (fun (W:World) (hb:Below w.heap.size w W)=>wI (h.below hb) n0);have x0:w.cell? ⟨bx,0,none⟩=some (.pointer (some ⟨b,0,none⟩)):=hx.cell 0;have b0:w.cell? ⟨b,0,none⟩=some (.pointer (some ⟨g,0,none⟩)):=Blk.cell hbk 0;clear h hbk hx;go_enter Tryz.func169,Tryz.ntmps169;go_upto_region 1 with fail
 go_region_held3 (fun W=>W.cell? ⟨bx,0,none⟩=some (.pointer (some ⟨b,0,none⟩))∧W.cell? ⟨b,0,none⟩=some (.pointer (some ⟨g,0,none⟩))∧W.cell? ⟨gb,0,none⟩=some (.int .i64 n0))
  (exact ⟨x0,b0,c0⟩)
  (first
   | (go_at_call 39;refine (HP.out _ (by exact aa)).mono ?_;rintro e w' ⟨T',n,S',rfl,hp,hA,hG⟩;replace x0:=hG.outs.cell x0 nx;replace b0:=hG.outs.cell b0 nb;replace c0:=hG.outs.cell c0 ng)
   | fail)
 all_goals go_wp2_with fail
 all_goals go_ret
 all_goals exact ⟨T',n,S',rfl,hp,hA,(Grown.of_below (by exact aa)).trans hG⟩
theorem Pp (h:Use B w g T S) (hbk:Bk w b g s p) {bx gb c by_:Nat} (hx:Blk w bx 176 #[.pointer (some ⟨b,0,none⟩)]) {alg:ByteArray} (hsz:alg.size≤1000000) (hy:Blk w by_ 9 #[.string alg]) {n0 n1:Int} (c0:w.cell? ⟨gb,0,none⟩=some (.int .i64 n0)) (c1:w.cell? ⟨gb,1,none⟩=some (.int .i64 n1)) (nx:¬ S bx) (nb:¬ S b) (ng:¬ S gb) (ny:¬ S by_) :
  Calls Tryz.prog 172 #[.slice (some ⟨gb,0,none⟩) 2 c,.pointer (some ⟨bx,0,none⟩),.pointer (some ⟨by_,0,none⟩)] w (Done B w g T S (mX alg (arg T n0) (arg T n1))):=by
 have HP:=hide (fun (W:World) (hb:Below w.heap.size w W)=>wh (h.below hb) (s:=alg) (by omega) n0 n1);have x0:w.cell? ⟨bx,0,none⟩=some (.pointer (some ⟨b,0,none⟩)):=hx.cell 0;have b0:w.cell? ⟨b,0,none⟩=some (.pointer (some ⟨g,0,none⟩)):=Blk.cell hbk 0;have y0:w.cell? ⟨by_,0,none⟩=some (.string alg):=hy.cell 0;clear h hbk hx hy;go_enter Tryz.func172,Tryz.ntmps172;go_upto_region 1 with fail
 go_region_held3 (fun W=>W.cell? ⟨bx,0,none⟩=some (.pointer (some ⟨b,0,none⟩))∧W.cell? ⟨b,0,none⟩=some (.pointer (some ⟨g,0,none⟩))∧W.cell? ⟨gb,0,none⟩=some (.int .i64 n0)∧W.cell? ⟨gb,1,none⟩=some (.int .i64 n1)∧W.cell? ⟨by_,0,none⟩=some (.string alg))
  (exact ⟨x0,b0,c0,c1,y0⟩)
  (first
   | (go_at_call 102;refine (HP.out _ (by exact aa)).mono ?_;rintro e w' ⟨T',n,S',rfl,hp,hA,hG⟩;replace x0:=hG.outs.cell x0 nx;replace b0:=hG.outs.cell b0 nb;replace c0:=hG.outs.cell c0 ng;replace c1:=hG.outs.cell c1 ng;replace y0:=hG.outs.cell y0 ny)
   | fail)
 all_goals go_wp2_with fail
 all_goals go_ret
 all_goals exact ⟨T',n,S',rfl,hp,hA,(Grown.of_below (by exact aa)).trans hG⟩
theorem Pd (h:Use B w g T S) (hbk:Bk w b g s p) {bx gb c by_:Nat} (hx:Blk w bx 176 #[.pointer (some ⟨b,0,none⟩)]) {q:Nat} (hq:q<256) (hy:Blk w by_ 5 #[.int .u8 (q:Nat)]) {n0 n1 n2:Int} (c0:w.cell? ⟨gb,0,none⟩=some (.int .i64 n0)) (c1:w.cell? ⟨gb,1,none⟩=some (.int .i64 n1)) (c2:w.cell? ⟨gb,2,none⟩=some (.int .i64 n2)) (nx:¬ S bx) (nb:¬ S b) (ng:¬ S gb) (ny:¬ S by_) :
  Calls Tryz.prog 173 #[.slice (some ⟨gb,0,none⟩) 3 c,.pointer (some ⟨bx,0,none⟩),.pointer (some ⟨by_,0,none⟩)] w (Done B w g T S (ou q (arg T n0) (arg T n1) (arg T n2))):=by
 have HP:=hide (fun (W:World) (hb:Below w.heap.size w W)=>Ck (h.below hb) q hq n0 n1 n2);have x0:w.cell? ⟨bx,0,none⟩=some (.pointer (some ⟨b,0,none⟩)):=hx.cell 0;have b0:w.cell? ⟨b,0,none⟩=some (.pointer (some ⟨g,0,none⟩)):=Blk.cell hbk 0;have y0:w.cell? ⟨by_,0,none⟩=some (.int .u8 (q:Nat)):=hy.cell 0;clear h hbk hx hy;go_enter Tryz.func173,Tryz.ntmps173;go_upto_region 1 with fail
 go_region_held3 (fun W=>W.cell? ⟨bx,0,none⟩=some (.pointer (some ⟨b,0,none⟩))∧W.cell? ⟨b,0,none⟩=some (.pointer (some ⟨g,0,none⟩))∧W.cell? ⟨gb,0,none⟩=some (.int .i64 n0)∧W.cell? ⟨gb,1,none⟩=some (.int .i64 n1)∧W.cell? ⟨gb,2,none⟩=some (.int .i64 n2)∧W.cell? ⟨by_,0,none⟩=some (.int .u8 (q:Nat)))
  (exact ⟨x0,b0,c0,c1,c2,y0⟩)
  (first
   | (go_at_call 174;refine (HP.out _ (by exact aa)).mono ?_;rintro e w' ⟨T',n,S',rfl,hp,hA,hG⟩;replace x0:=hG.outs.cell x0 nx;replace b0:=hG.outs.cell b0 nb;replace c0:=hG.outs.cell c0 ng;replace c1:=hG.outs.cell c1 ng;replace c2:=hG.outs.cell c2 ng;replace y0:=hG.outs.cell y0 ny)
   | fail)
 all_goals go_wp2_with fail
 all_goals go_ret
 all_goals exact ⟨T',n,S',rfl,hp,hA,(Grown.of_below (by exact aa)).trans hG⟩
theorem Ot (h:Use B w g T S) (hbk:Bk w b g s p) {bx gb c by_:Nat} (hx:Blk w bx 176 #[.pointer (some ⟨b,0,none⟩)]) {q:Nat} (hq:q<4294967296) (hy:Blk w by_ 3 #[.int .i64 (q:Nat)]) {n0 n1:Int} (c0:w.cell? ⟨gb,0,none⟩=some (.int .i64 n0)) (c1:w.cell? ⟨gb,1,none⟩=some (.int .i64 n1)) (nx:¬ S bx) (nb:¬ S b) (ng:¬ S gb) (ny:¬ S by_) :
  Calls Tryz.prog 176 #[.slice (some ⟨gb,0,none⟩) 2 c,.pointer (some ⟨bx,0,none⟩),.pointer (some ⟨by_,0,none⟩)] w (Done B w g T S (Ca q (arg T n0) (arg T n1))):=by
 have HP:=hide (fun (W:World) (hb:Below w.heap.size w W)=>H6 (h.below hb) q hq n0 n1);have x0:w.cell? ⟨bx,0,none⟩=some (.pointer (some ⟨b,0,none⟩)):=hx.cell 0;have b0:w.cell? ⟨b,0,none⟩=some (.pointer (some ⟨g,0,none⟩)):=Blk.cell hbk 0;have y0:w.cell? ⟨by_,0,none⟩=some (.int .i64 (q:Nat)):=hy.cell 0;have wq:IntKind.u32.wrap (q:Int)=(q:Int):=by rw [IntKind.wrap_u32];omega
 clear h hbk hx hy;go_enter Tryz.func176,Tryz.ntmps176;go_upto_region 1 with fail
 go_region_held3 (fun W=>W.cell? ⟨bx,0,none⟩=some (.pointer (some ⟨b,0,none⟩))∧W.cell? ⟨b,0,none⟩=some (.pointer (some ⟨g,0,none⟩))∧W.cell? ⟨gb,0,none⟩=some (.int .i64 n0)∧W.cell? ⟨gb,1,none⟩=some (.int .i64 n1)∧W.cell? ⟨by_,0,none⟩=some (.int .i64 (q:Nat)))
  (exact ⟨x0,b0,c0,c1,y0⟩)
  (first
   | (go_at_call 177;refine (HP.out _ (by exact aa)).mono ?_;rintro e w' ⟨T',n,S',rfl,hp,hA,hG⟩;replace x0:=hG.outs.cell x0 nx;replace b0:=hG.outs.cell b0 nb;replace c0:=hG.outs.cell c0 ng;replace c1:=hG.outs.cell c1 ng;replace y0:=hG.outs.cell y0 ny)
   | fail)
 all_goals go_wp2_with fail
 all_goals go_ret
 all_goals exact ⟨T',n,S',rfl,hp,hA,(Grown.of_below (by exact aa)).trans hG⟩
theorem G6 (IH:dM B b g s N) (h:Rd B b g s p T S w) (hN:s.size - p<N) {bx p0:Nat} (hx:Blk w bx 176 #[.pointer (some ⟨b,0,none⟩)]) (hxn:¬ SR b S bx) {c:UInt8} {s1:List UInt8}
  (h1:s.data.toList.drop p0=c :: s1) (hc:c.toNat=240+4) (hH:Hed 4 0 0 eB 1 s1 (s.data.toList.drop p)) (hpp:p0<p) (hK:T.length+2*(s.size - p0)≤900000000) :
  Calls Tryz.prog 167 #[.pointer (some ⟨b,0,none⟩),.int .i64 1,.func (.func 168) #[] #[.pointer (some ⟨bx,0,none⟩)]] w (Got B b g s p0 p T S w):=by
 have HS:=hide (jZ IH h hN 1 (by omega));have H:=hide h;have Hx:=hide hx;have Hc:=hide hc;have HH:=hide hH;have H1:=hide h1;clear h IH hx hc hH h1;go_enter Tryz.func167,Tryz.ntmps167;go_wp2_with fail;refine HS.out.mono ?_;rintro e w1 (⟨T1,S1,p1,rfl,hNo,hR,hG,hpre,hl,hle⟩ | ⟨T1,S1,p1,l,A,cz,rfl,hg,hn,he,hI,hR,hG,hpre,hl,hle⟩)
 ·go_wp2_with fail
  go_ret;exact nV H1.out Hc.out HH.out hNo hR hG hpre hl hle
 ·obtain ⟨gb,rfl,hgl,hcell⟩:=jc hI hn (by omega)
  match l,hn with
  | [t0],_ =>
   obtain ⟨n0,c0,i0⟩:=hcell 0 t0 rfl;have a0:=kQ i0;have NX:=hG.notin2 hxn Hx.out.lt;have NG:=hI.out gb rfl;have HD:=hide (Ow hR.use hR.bk (hG.outs.blk Hx.out hxn) (c:=cz) c0 (fun h9=>NX (.inl h9)) hR.nb (fun h9=>NG (.inl h9)));rw [a0] at HD;go_wp2_with fail;refine HD.out.mono ?_;rintro e w2 hD;have hF:=hide (lV (w:=w) H1.out Hc.out (by omega) HH.out hg rfl he hR hG hpre hl hle (EB t0) hD hpp hK);obtain ⟨T2,m,S2,rfl,hD2⟩:=hD;go_wp2_with fail;go_ret;exact hF.out
theorem Ie (IH:dM B b g s N) (h:Rd B b g s p T S w) (hN:s.size - p<N) {bx p0:Nat} (hx:Blk w bx 176 #[.pointer (some ⟨b,0,none⟩)]) (hxn:¬ SR b S bx) {c:UInt8} {s1:List UInt8}
  (h1:s.data.toList.drop p0=c :: s1) (hc:c.toNat=240+7) (hH:Hed 7 0 0 eB 1 s1 (s.data.toList.drop p)) (hpp:p0<p) (hK:T.length+2*(s.size - p0)≤900000000) :
  Calls Tryz.prog 167 #[.pointer (some ⟨b,0,none⟩),.int .i64 1,.func (.func 169) #[] #[.pointer (some ⟨bx,0,none⟩)]] w (Got B b g s p0 p T S w):=by
 have HS:=hide (jZ IH h hN 1 (by omega));have H:=hide h;have Hx:=hide hx;have Hc:=hide hc;have HH:=hide hH;have H1:=hide h1;clear h IH hx hc hH h1;go_enter Tryz.func167,Tryz.ntmps167;go_wp2_with fail;refine HS.out.mono ?_;rintro e w1 (⟨T1,S1,p1,rfl,hNo,hR,hG,hpre,hl,hle⟩ | ⟨T1,S1,p1,l,A,cz,rfl,hg,hn,he,hI,hR,hG,hpre,hl,hle⟩)
 ·go_wp2_with fail
  go_ret;exact nV H1.out Hc.out HH.out hNo hR hG hpre hl hle
 ·obtain ⟨gb,rfl,hgl,hcell⟩:=jc hI hn (by omega)
  match l,hn with
  | [t0],_ =>
   obtain ⟨n0,c0,i0⟩:=hcell 0 t0 rfl;have a0:=kQ i0;have NX:=hG.notin2 hxn Hx.out.lt;have NG:=hI.out gb rfl;have HD:=hide (PY hR.use hR.bk (hG.outs.blk Hx.out hxn) (c:=cz) c0 (fun h9=>NX (.inl h9)) hR.nb (fun h9=>NG (.inl h9)));rw [a0] at HD;go_wp2_with fail;refine HD.out.mono ?_;rintro e w2 hD;have hF:=hide (lV (w:=w) H1.out Hc.out (by omega) HH.out hg rfl he hR hG hpre hl hle (zM t0) hD hpp hK);obtain ⟨T2,m,S2,rfl,hD2⟩:=hD;go_wp2_with fail;go_ret;exact hF.out
theorem GD (IH:dM B b g s N) (h:Rd B b g s p T S w) (hN:s.size - p<N) {bx by_ p0:Nat} (hx:Blk w bx 176 #[.pointer (some ⟨b,0,none⟩)]) (hxn:¬ SR b S bx) {alg:ByteArray} (hsz:alg.size≤1000000) (hy:Blk w by_ 9 #[.string alg]) (hyn:¬ SR b S by_) {c:UInt8} {s1:List UInt8}
  (h1:s.data.toList.drop p0=c :: s1) (hc:c.toNat=240+6) (hH:Hed 6 0 0 alg 2 s1 (s.data.toList.drop p)) (hpp:p0<p) (hK:T.length+2*(s.size - p0)≤900000000) :
  Calls Tryz.prog 167 #[.pointer (some ⟨b,0,none⟩),.int .i64 2,.func (.func 172) #[] #[.pointer (some ⟨bx,0,none⟩),.pointer (some ⟨by_,0,none⟩)]] w (Got B b g s p0 p T S w):=by
 have HS:=hide (jZ IH h hN 2 (by omega));have H:=hide h;have Hx:=hide hx;have Hc:=hide hc;have HH:=hide hH;have H1:=hide h1;have Hy:=hide hy;clear h IH hx hc hH h1 hy;go_enter Tryz.func167,Tryz.ntmps167;go_wp2_with fail;refine HS.out.mono ?_;rintro e w1 (⟨T1,S1,p1,rfl,hNo,hR,hG,hpre,hl,hle⟩ | ⟨T1,S1,p1,l,A,cz,rfl,hg,hn,he,hI,hR,hG,hpre,hl,hle⟩)
 ·go_wp2_with fail
  go_ret;exact nV H1.out Hc.out HH.out hNo hR hG hpre hl hle
 ·obtain ⟨gb,rfl,hgl,hcell⟩:=jc hI hn (by omega)
  match l,hn with
  | [t0,t1],_ =>
   obtain ⟨n0,c0,i0⟩:=hcell 0 t0 rfl;have a0:=kQ i0;obtain ⟨n1,c1,i1⟩:=hcell 1 t1 rfl;have a1:=kQ i1;have NX:=hG.notin2 hxn Hx.out.lt;have NG:=hI.out gb rfl;have NY:=hG.notin2 hyn Hy.out.lt;have HD:=hide (Pp hR.use hR.bk (hG.outs.blk Hx.out hxn) hsz (hG.outs.blk Hy.out hyn) (c:=cz) c0 c1 (fun h9=>NX (.inl h9)) hR.nb (fun h9=>NG (.inl h9)) (fun h9=>NY (.inl h9)));rw [a0,a1] at HD;go_wp2_with fail;refine HD.out.mono ?_;rintro e w2 hD;have hF:=hide (lV (w:=w) H1.out Hc.out (by omega) HH.out hg rfl he hR hG hpre hl hle (Ak alg t0 t1) hD hpp hK);obtain ⟨T2,m,S2,rfl,hD2⟩:=hD;go_wp2_with fail;go_ret;exact hF.out
theorem Iw (IH:dM B b g s N) (h:Rd B b g s p T S w) (hN:s.size - p<N) {bx by_ p0:Nat} (hx:Blk w bx 176 #[.pointer (some ⟨b,0,none⟩)]) (hxn:¬ SR b S bx) {q:Nat} (hq:q<256) (hy:Blk w by_ 5 #[.int .u8 (q:Nat)]) (hyn:¬ SR b S by_) {c:UInt8} {s1:List UInt8}
  (h1:s.data.toList.drop p0=c :: s1) (hc:c.toNat=240+8) (hH:Hed 8 0 q eB 3 s1 (s.data.toList.drop p)) (hpp:p0<p) (hK:T.length+2*(s.size - p0)≤900000000) :
  Calls Tryz.prog 167 #[.pointer (some ⟨b,0,none⟩),.int .i64 3,.func (.func 173) #[] #[.pointer (some ⟨bx,0,none⟩),.pointer (some ⟨by_,0,none⟩)]] w (Got B b g s p0 p T S w):=by
 have HS:=hide (jZ IH h hN 3 (by omega));have H:=hide h;have Hx:=hide hx;have Hc:=hide hc;have HH:=hide hH;have H1:=hide h1;have Hy:=hide hy;clear h IH hx hc hH h1 hy;go_enter Tryz.func167,Tryz.ntmps167;go_wp2_with fail;refine HS.out.mono ?_;rintro e w1 (⟨T1,S1,p1,rfl,hNo,hR,hG,hpre,hl,hle⟩ | ⟨T1,S1,p1,l,A,cz,rfl,hg,hn,he,hI,hR,hG,hpre,hl,hle⟩)
 ·go_wp2_with fail
  go_ret;exact nV H1.out Hc.out HH.out hNo hR hG hpre hl hle
 ·obtain ⟨gb,rfl,hgl,hcell⟩:=jc hI hn (by omega)
  match l,hn with
  | [t0,t1,t2],_ =>
   obtain ⟨n0,c0,i0⟩:=hcell 0 t0 rfl;have a0:=kQ i0;obtain ⟨n1,c1,i1⟩:=hcell 1 t1 rfl;have a1:=kQ i1;obtain ⟨n2,c2,i2⟩:=hcell 2 t2 rfl;have a2:=kQ i2;have NX:=hG.notin2 hxn Hx.out.lt;have NG:=hI.out gb rfl;have NY:=hG.notin2 hyn Hy.out.lt;have HD:=hide (Pd hR.use hR.bk (hG.outs.blk Hx.out hxn) hq (hG.outs.blk Hy.out hyn) (c:=cz) c0 c1 c2 (fun h9=>NX (.inl h9)) hR.nb (fun h9=>NG (.inl h9)) (fun h9=>NY (.inl h9)));rw [a0,a1,a2] at HD;go_wp2_with fail;refine HD.out.mono ?_;rintro e w2 hD;have hF:=hide (lV (w:=w) H1.out Hc.out (by omega) HH.out hg rfl he hR hG hpre hl hle (vJ q hq t0 t1 t2) hD hpp hK);obtain ⟨T2,m,S2,rfl,hD2⟩:=hD;go_wp2_with fail;go_ret;exact hF.out
theorem H7 (IH:dM B b g s N) (h:Rd B b g s p T S w) (hN:s.size - p<N) {bx by_ p0:Nat} (hx:Blk w bx 176 #[.pointer (some ⟨b,0,none⟩)]) (hxn:¬ SR b S bx) {q:Nat} (hq:q<4294967296) (hy:Blk w by_ 3 #[.int .i64 (q:Nat)]) (hyn:¬ SR b S by_) {c:UInt8} {s1:List UInt8}
  (h1:s.data.toList.drop p0=c :: s1) (hc:c.toNat=240+9) (hH:Hed 9 0 q eB 2 s1 (s.data.toList.drop p)) (hpp:p0<p) (hK:T.length+2*(s.size - p0)≤900000000) :
  Calls Tryz.prog 167 #[.pointer (some ⟨b,0,none⟩),.int .i64 2,.func (.func 176) #[] #[.pointer (some ⟨bx,0,none⟩),.pointer (some ⟨by_,0,none⟩)]] w (Got B b g s p0 p T S w):=by
 have HS:=hide (jZ IH h hN 2 (by omega));have H:=hide h;have Hx:=hide hx;have Hc:=hide hc;have HH:=hide hH;have H1:=hide h1;have Hy:=hide hy;clear h IH hx hc hH h1 hy;go_enter Tryz.func167,Tryz.ntmps167;go_wp2_with fail;refine HS.out.mono ?_;rintro e w1 (⟨T1,S1,p1,rfl,hNo,hR,hG,hpre,hl,hle⟩ | ⟨T1,S1,p1,l,A,cz,rfl,hg,hn,he,hI,hR,hG,hpre,hl,hle⟩)
 ·go_wp2_with fail
  go_ret;exact nV H1.out Hc.out HH.out hNo hR hG hpre hl hle
 ·obtain ⟨gb,rfl,hgl,hcell⟩:=jc hI hn (by omega)
  match l,hn with
  | [t0,t1],_ =>
   obtain ⟨n0,c0,i0⟩:=hcell 0 t0 rfl;have a0:=kQ i0;obtain ⟨n1,c1,i1⟩:=hcell 1 t1 rfl;have a1:=kQ i1;have NX:=hG.notin2 hxn Hx.out.lt;have NG:=hI.out gb rfl;have NY:=hG.notin2 hyn Hy.out.lt;have HD:=hide (Ot hR.use hR.bk (hG.outs.blk Hx.out hxn) hq (hG.outs.blk Hy.out hyn) (c:=cz) c0 c1 (fun h9=>NX (.inl h9)) hR.nb (fun h9=>NG (.inl h9)) (fun h9=>NY (.inl h9)));rw [a0,a1] at HD;go_wp2_with fail;refine HD.out.mono ?_;rintro e w2 hD;have hF:=hide (lV (w:=w) H1.out Hc.out (by omega) HH.out hg rfl he hR hG hpre hl hle (Cj q hq t0 t1) hD hpp hK);obtain ⟨T2,m,S2,rfl,hD2⟩:=hD;go_wp2_with fail;go_ret;exact hF.out
end
section
variable {B b g p p0 N : Nat} {s : ByteArray} {T : List Tm} {S : Nat → Prop} {w w1 w2 : World} {c : UInt8} {s1 : List UInt8}
theorem iJ {p1:Nat} (hN:NoT (s.data.toList.drop p0)) (hR:Rd B b g s p1 T S w1) (hG:Grown (SR b S) w (SR b S) w1) (hle:p≤p1):Got B b g s p0 p T S w (.returned (.int .i64 (-1))) w1 :=
 ⟨T,-1,S,p1,none,rfl,cu _,fE hN,hR,hG,List.prefix_refl _,by omega,hle⟩
theorem uP {k a b':Nat} {s':ByteArray} {p1:Nat} (h1:s.data.toList.drop p0=c :: s1) (hc:c.toNat=240+k) (hk:k≤10) (hH:Hed k a b' s' 0 s1 (s.data.toList.drop p1))
  (hR:Rd B b g s p1 T S w1) (hG:Grown (SR b S) w (SR b S) w1) (hle:p≤p1) {o:Option Tm} (ho:ig k a b' s' [] o) {e:Ending} (hD:Done B w1 g T S o e w2) (hpp:p0<p) (hK:T.length+2*(s.size - p0)≤900000000):Got B b g s p0 p T S w e w2:=by
 obtain ⟨T2,m,S2,rfl,hP,hA,hG2⟩:=hD;have h3:=hP.len;have h5:=hR.hp;exact ⟨T2,m,S2,p1,o,rfl,hP.idn,kr hR.hs h1 hc hk hH (l:=[]) trivial rfl (by simp [encs]) ho,hR.grown hG2 hA (by omega),hG.trans (hG2.sr b),hP.pre,by omega,hle⟩
theorem jh (h:Rd B b g s p T S w):w.cell? ⟨b,0,none⟩=some (.pointer (some ⟨g,0,none⟩)):=Blk.cell h.bk 0
def TD (B b g:Nat) (s:ByteArray) (p:Nat) (T:List Tm) (S:Nat→Prop) (w:World) (e:Ending) (w':World):Prop :=
 (∃p',e=.returned (.tuple #[.string ⟨#[]⟩,.bool false])∧(s.size<p+4∨(p+4≤s.size∧s.size<p+4+n4 (s.data.toList.drop p)))∧Rd B b g s p' T S w'∧Grown (SR b S) w (SR b S) w'∧p≤p') ∨
 (∃n,n=n4 (s.data.toList.drop p)∧p+4+n≤s.size∧e=.returned (.tuple #[.string (bs ((s.data.toList.drop (p+4)).take n)),.bool true])∧Rd B b g s (p+4+n) T S w'∧Grown (SR b S) w (SR b S) w')
theorem uM (h:Rd B b g s p T S w):Calls Tryz.prog 171 #[.pointer (some ⟨b,0,none⟩)] w (TD B b g s p T S w):=by
 have hs:s.size≤1000000:=by have:=h.hs;omega
 by_cases h4:s.size<p+4
 ·refine (C8 h.bk hs h.hp h4).mono ?_
  rintro e w' ⟨rfl,hB,hG⟩;exact .inl ⟨p,rfl,.inl h4,h.by_ hB hG h.hp (Nat.le_refl _),gm hG,Nat.le_refl _⟩
 ·by_cases h5:s.size<p+4+n4 (s.data.toList.drop p)
  ·refine (Db h.bk hs rfl (by omega) h5).mono ?_
   rintro e w' ⟨rfl,hB,hG⟩;exact .inl ⟨p+4,rfl,.inr ⟨by omega,h5⟩,h.by_ hB hG (by omega) (by omega),gm hG,by omega⟩
  ·refine (Ed h.bk hs rfl (by omega)).mono ?_
   rintro e w' ⟨rfl,hB,hG⟩;exact .inr ⟨_,rfl,by omega,rfl,h.by_ hB hG (by omega) (by omega),gm hG⟩
def TQ (B b g:Nat) (s:ByteArray) (p:Nat) (T:List Tm) (S:Nat→Prop) (w:World) (e:Ending) (w':World):Prop :=
 (e=.returned (.tuple #[.int .i64 0,.bool false])∧s.size<p+4∧Rd B b g s p T S w'∧Grown (SR b S) w (SR b S) w') ∨
 (p+4≤s.size∧e=.returned (.tuple #[.int .i64 (n4 (s.data.toList.drop p)),.bool true])∧Rd B b g s (p+4) T S w'∧Grown (SR b S) w (SR b S) w')
theorem oL (h:Rd B b g s p T S w):Calls Tryz.prog 175 #[.pointer (some ⟨b,0,none⟩)] w (TQ B b g s p T S w):=by
 have hs:s.size≤1000000:=by have:=h.hs;omega
 by_cases h4:s.size<p+4
 ·refine (zi h.bk hs h.hp h4).mono ?_
  rintro e w' ⟨rfl,hB,hG⟩;exact .inl ⟨rfl,h4,h.by_ hB hG h.hp (Nat.le_refl _),gm hG⟩
 ·refine (lC h.bk hs (by omega)).mono ?_
  rintro e w' ⟨rfl,hB,hG⟩;exact .inr ⟨by omega,rfl,h.by_ hB hG (by omega) (by omega),gm hG⟩
def Sv (B b g:Nat) (s:ByteArray) (p:Nat) (T:List Tm) (S:Nat→Prop) (w:World) (e:Ending) (w':World):Prop :=
 (e=.returned (.tuple #[.int .u8 0,.bool false])∧p=s.size∧Rd B b g s p T S w'∧Grown (SR b S) w (SR b S) w') ∨
 (∃c:UInt8,s.data.toList.drop p=c :: s.data.toList.drop (p+1)∧p+1≤s.size∧e=.returned (.tuple #[.int .u8 c.toNat,.bool true])∧Rd B b g s (p+1) T S w'∧Grown (SR b S) w (SR b S) w')
theorem uX (h:Rd B b g s p T S w):Calls Tryz.prog 166 #[.pointer (some ⟨b,0,none⟩)] w (Sv B b g s p T S w):=by
 have hs:s.size≤1000000:=by have:=h.hs;omega
 refine (JI h.bk hs h.hp).mono ?_;rintro e w' ⟨p',he,hB,hG⟩
 by_cases hlt:p<s.size
 ·rw [dif_pos hlt] at he
  obtain ⟨rfl,rfl⟩:=he;exact .inr ⟨s[p],kg (s:=s.data.toList) hlt,hlt,rfl,h.by_ hB hG hlt (by omega),gm hG⟩
 ·rw [dif_neg hlt] at he
  obtain ⟨rfl,rfl⟩:=he;have:=h.hp;exact .inl ⟨rfl,by omega,h.by_ hB hG h.hp (Nat.le_refl _),gm hG⟩
theorem IC (h:Rd B b g s (p0+1) T S w) (h1:s.data.toList.drop p0=c :: s.data.toList.drop (p0+1)) (hc:c.toNat=241) (hK:T.length+2*(s.size - p0)≤900000000) :
  Calls Tryz.prog 180 #[.pointer (some ⟨b,0,none⟩),.int .i64 1] w (Got B b g s p0 (p0+1) T S w):=by
 have HX:=hide (uM h);have H:=hide h;have H1:=hide h1;have hlen:=h.len;have hsz:=h.hs;clear h h1;go_enter Tryz.func180,Tryz.ntmps180;go_wp2_with fail;refine HX.out.mono ?_;rintro e w1 (⟨p1,rfl,hno,hR,hG,hle⟩ | ⟨n,hn,h5,rfl,hR,hG⟩)
 ·go_wp2_with fail
  go_ret;refine iJ ?_ hR hG hle;rw [H1.out];exact no1 hc (by omega)
 ·have hb0:=jh hR
  have hnl:(bs ((s.data.toList.drop (p0+1+4)).take n)).size≤1000000:=by
   show ((s.data.toList.drop (p0+1+4)).take n).length≤1000000;rw [List.length_take];omega
  have HD:=hide (qG hR.use hnl)
  have hH:Hed 1 0 0 (bs ((s.data.toList.drop (p0+1+4)).take n)) 0 (s.data.toList.drop (p0+1)) (s.data.toList.drop (p0+1+4+n)):=by
   have:=TM (s1:=s.data.toList.drop (p0+1)) (by omega) (by omega);rw [List.drop_drop,List.drop_drop,← hn] at this;rw [show p0+1+4+n=p0+1+(4+n) by omega];exact this
  have HF:=hide (fun e w2 (hD:Done B w1 g T S (aO (bs ((s.data.toList.drop (p0+1+4)).take n))) e w2)=>uP (w:=w) (p:=p0+1) H1.out hc (by omega) hH hR hG (by omega) (zP _ (by omega)) hD (by omega) hK);clear hH hR hG hn hnl;generalize bs ((s.data.toList.drop (p0+1+4)).take n)=x at HD HF ⊢;go_wp2_with fail;refine HD.out.mono ?_;intro e w2 hD;have hF:=hide (HF.out e w2 hD);obtain ⟨T2,m,S2,rfl,_⟩:=hD;go_wp2_with fail;go_ret;exact hF.out
theorem NI (h:Rd B b g s (p0+1) T S w) (h1:s.data.toList.drop p0=c :: s.data.toList.drop (p0+1)) (hc:c.toNat=243) (hK:T.length+2*(s.size - p0)≤900000000) :
  Calls Tryz.prog 180 #[.pointer (some ⟨b,0,none⟩),.int .i64 3] w (Got B b g s p0 (p0+1) T S w):=by
 have HX:=hide (oL h);have H1:=hide h1;have hlen:=h.len;clear h h1;go_enter Tryz.func180,Tryz.ntmps180;go_wp2_with fail;refine HX.out.mono ?_;rintro e w1 (⟨rfl,hno,hR,hG⟩ | ⟨h4,rfl,hR,hG⟩)
 ·go_wp2_with fail
  go_ret;refine iJ ?_ hR hG (Nat.le_refl _);rw [H1.out];exact no3 hc (by omega)
 ·have hb0:=jh hR
  have HD:=hide (uI hR.use (n4 (s.data.toList.drop (p0+1)):Nat))
  have hH:Hed 3 (n4 (s.data.toList.drop (p0+1))) 0 eB 0 (s.data.toList.drop (p0+1)) (s.data.toList.drop (p0+1+4)):=by
   have:=Ub (s1:=s.data.toList.drop (p0+1)) (by omega);rw [List.drop_drop] at this;exact this
  have HF:=hide (fun e w2 hD=>uP (e:=e) (w2:=w2) (w:=w) (p:=p0+1) H1.out hc (by omega) hH hR hG (by omega) (EX _) hD (by omega) hK);clear hH hR hG;generalize n4 (s.data.toList.drop (p0+1))=x at HD HF ⊢;go_wp2_with fail;refine HD.out.mono ?_;intro e w2 hD;have hF:=hide (HF.out e w2 hD);obtain ⟨T2,m,S2,rfl,_⟩:=hD;go_wp2_with fail;go_ret;exact hF.out
theorem D6 (h:Rd B b g s (p0+1) T S w) (h1:s.data.toList.drop p0=c :: s.data.toList.drop (p0+1)) (hc:c.toNat=242) (hK:T.length+2*(s.size - p0)≤900000000) :
  Calls Tryz.prog 180 #[.pointer (some ⟨b,0,none⟩),.int .i64 2] w (Got B b g s p0 (p0+1) T S w):=by
 have HX:=hide (oL h);have H1:=hide h1;have hlen:=h.len;clear h h1;go_enter Tryz.func180,Tryz.ntmps180;go_wp2_with fail;refine HX.out.mono ?_;rintro e w1 (⟨rfl,hno,hR,hG⟩ | ⟨h4,rfl,hR,hG⟩)
 ·have HY:=hide (oL hR)
  go_wp2_with fail;refine HY.out.mono ?_;rintro e w2 (⟨rfl,hno2,hR2,hG2⟩ | ⟨h42,rfl,hR2,hG2⟩)
  ·go_wp2_with fail
   go_ret;refine iJ ?_ hR2 (hG.trans hG2) (Nat.le_refl _);rw [H1.out];exact no2 hc (by omega)
  ·omega
 ·have HY:=hide (oL hR)
  go_wp2_with fail;refine HY.out.mono ?_;rintro e w2 (⟨rfl,hno2,hR2,hG2⟩ | ⟨h42,rfl,hR2,hG2⟩)
  ·go_wp2_with fail
   go_ret;refine iJ ?_ hR2 (hG.trans hG2) (by omega);rw [H1.out];exact no2 hc (by omega)
  ·have hb0:=jh hR2
   have HD:=hide (EZ hR2.use (n4 (s.data.toList.drop (p0+1)):Nat) (n4 (s.data.toList.drop (p0+1+4)):Nat))
   have hH:Hed 2 (n4 (s.data.toList.drop (p0+1))) (n4 (s.data.toList.drop (p0+1+4))) eB 0 (s.data.toList.drop (p0+1)) (s.data.toList.drop (p0+1+4+4)):=by
    have:=TP (s1:=s.data.toList.drop (p0+1)) (by omega);rw [List.drop_drop,List.drop_drop] at this;exact this
   have HF:=hide (fun e w3 hD=>uP (e:=e) (w2:=w3) (w:=w) (p:=p0+1) H1.out hc (by omega) hH hR2 (hG.trans hG2) (by omega) (yx _ _) hD (by omega) hK);clear hH hR hG hR2 hG2 HY;generalize n4 (s.data.toList.drop (p0+1))=x at HD HF ⊢;generalize n4 (s.data.toList.drop (p0+1+4))=y at HD HF ⊢;go_wp2_with fail;refine HD.out.mono ?_;intro e w3 hD;have hF:=hide (HF.out e w3 hD);obtain ⟨T2,m,S2,rfl,_⟩:=hD;go_wp2_with fail;go_ret;exact hF.out
theorem EP (h:Rd B b g s (p0+1) T S w) (k:Int) (h1:¬ k=1) (h2:¬ k=2) (h3:¬ k=3) (hN:NoT (s.data.toList.drop p0)) :
  Calls Tryz.prog 180 #[.pointer (some ⟨b,0,none⟩),.int .i64 k] w (Got B b g s p0 (p0+1) T S w):=by
 have H:=hide h;have HN:=hide hN;clear h hN;go_enter Tryz.func180,Tryz.ntmps180;go_wp2_with fail;go_ret;exact iJ HN.out H.out (Grown.refl _ _) (Nat.le_refl _)
end
section
variable {w : World}
theorem E5 (who:Int) (w:World):Calls Tryz.prog 79 #[.int .i64 who] w (Says (txt (gG (dW who))) w):=by
 have HK:=hide (Nh who w);have HP:=hide (fun W=>Ms (qK who) W);go_enter Tryz.func79,Tryz.ntmps79;go_wp2_with fail;refine HK.out.mono ?_;rintro e w1 ⟨rfl,hb1⟩;go_wp2_with fail;refine (HP.out _).mono ?_;rintro e w2 ⟨rfl,hb2⟩;go_wp2_with fail;go_ret;exact ⟨rfl,hb1.trans (hb2.mono hb1.size)⟩
end
def lM (B:Nat) (w:World) (g:Nat) (T:List Tm) (S:Nat→Prop) (os:List (Option Tm)) (e:Ending) (w':World):Prop :=
 ∃T' S' v,e=.returned v∧IdO w.heap.size w' T' os v S'∧T <+: T'∧T'.length≤T.length+os.length∧Ar B w' g T' S'∧Grown S w S' w'
structure SQ (B:Nat) (w:World) (g:Nat) (T:List Tm) (S:Nat→Prop) (os:List (Option Tm)) (i:Nat) (wr:World) (T':List Tm) (S':Nat→Prop) (v:Value):Prop where
 ar:Ar B wr g T' S'
 grown:Grown S w S' wr
 pre:T <+: T'
 few:T'.length≤T.length+i
 ids:IdO w.heap.size wr T' (os.take i) v S'
section
variable {B g : Nat} {w : World} {T : List Tm} {S : Nat → Prop}
theorem I7 (h:Use B w g T S) {A:Option Addr} {c lo:Nat} {ss:List ByteArray} (hs:Sl lo w 1 A ss.length (ss.map Value.string)) (hlo:∀i,S i→i<lo) (hz:∀s∈ss,s.size≤1000000) (hl:ss.length≤1000) (hT:T.length+ss.length≤1000000000) :
    Calls Tryz.prog 185 #[.pointer (some ⟨g,0,none⟩),.slice A ss.length c] w (lM B w g T S (ss.map aO)):=by
  have HU:=hide h;have HL:=hide hs;have Hz:=hide hz;have Hlo:=hide hlo
  have HI0:Hid (SQ B w g T S (ss.map aO) 0 w T S (.slice none 0 0)):=⟨h.ar,Grown.refl _ _,List.prefix_refl _,Nat.le_refl _,yH _ _ _ _⟩
  clear h hs hz hlo;go_enter Tryz.func185,Tryz.ntmps185;go_wp2_with fail
  go_loopw [10,5] (fun vi v wr=>∃(i:Nat) (T':List Tm) (S':Nat→Prop),vi=.int .i64 i∧i≤ss.length∧SQ B w g T S (ss.map aO) i wr T' S' v) (fun vi _ _=>ss.length - (intOf vi).toNat)
  case atStart=>exact ⟨0,T,S,rfl,Nat.zero_le _,HI0.out⟩
  case round =>
    obtain ⟨i,T',S',rfl,hi,hI⟩:=hrel;have HI:=hide hI;obtain ⟨A1,c1,hv⟩:=hI.ids.sl;have hml:((ss.map aO).take i).length=i:=by rw [List.length_take,List.length_map];omega
    rw [hml] at hv;subst hv;have hwz:=hI.grown.size
    by_cases hlt:i<ss.length
    · have hii:(i:Int)<ss.length:=by omega
      obtain ⟨ad,u,rfl,hlb,hab,hu,hc0⟩:=HL.out.at_ (k:=i) hlt;have hcell:=hI.grown.outs.cell hc0 (by rw [ax];intro h9;have:=Hlo.out _ h9;omega);rw [List.getElem?_map,List.getElem?_eq_getElem hlt] at hu;simp only [Option.map_some,Option.some.injEq] at hu;subst hu;have hsz:=Hz.out _ (List.getElem_mem hlt);have hUr:Use B wr g T' S':=HU.out.grown hI.grown hI.ar (by have:=hI.few;omega);have HD:=hide (qG hUr hsz)
      have hsn:(ss.map aO).take (i+1)=(ss.map aO).take i++[aO ss[i]]:=by
        rw [List.take_succ_eq_append_getElem (by rw [List.length_map];exact hlt),List.getElem_map]
      have Hsn:=hide hsn;obtain ⟨iI,hiI,hI0,hI1,hI2⟩:=info_parts yZ;clear hc0 hsn hUr hI;generalize ss[i]=s at HD Hsn hcell hsz
      go_wp2_with (first
        | (go_at_call 38;refine HD.out.mono ?_;rintro e wx ⟨T2,n2,S2,rfl,hp,hA2,hG⟩;
           have hX:=HI.out.ids.grown hG hp.pre;obtain ⟨ns,ho1,hidn⟩:=hX.ids;rw [hml] at ho1;have hbx:=hG.size)
        | (at_builtin;refine aA _ rfl (.tmp 14) (.tmp 18) _ rfl w.heap.size 39 iI (.int .i64 0) 1 8 Tryz.underlying124 hiI hI0 hI1 hI2 rfl (by decide) _ _ _ rfl (ho1.alloc _) _ (some ⟨_,0,none⟩) 1 1 [.int .i64 n2] rfl (eQ (Blk.new _ _ _) rfl) (by simp [Value.oneCell']) (by unfold maxLen;omega) (by omega) (by simp;omega) ?_;intro v6 w6 hown6 hgr6 hor6)
        | fail)
      have hIo:=HI.out
      have k0:Kp B w g T2 S S2 wx:=⟨hA2,hIo.grown.trans hG⟩
      have k1:=k0.step (gu (aj wx none) (.cells #[.int .i64 n2] 39)) (fun b e=>by cases e);have k2:=k1.step hgr6 (fun b e=>⟨(ho1.lt b e).1,hX.out b e⟩);have hsl:((ss.map aO).take (i+1)).length=i+1:=by rw [Hsn.out,List.length_append,hml];rfl
      have hidn2:=hidn.snoc hp.idn;have hSx:=hA2.sL;refine ⟨⟨i+1,T2,S2,by go_num,by omega,k2.ar,k2.grown,hIo.pre.trans hp.pre,by have:=hp.len;have:=hIo.few;omega,⟨ns++[n2],?_,?_⟩,?_⟩,by simp [intOf];omega⟩
      · rw [hsl];simpa using hown6
      · rw [Hsn.out];exact hidn2
      · exact at_new hor6 hX.out (fun i hi=>by have:=hSx i hi;simp;omega)
    · obtain rfl:i=ss.length:=by omega
      have hii:¬ (ss.length:Int)<ss.length:=by omega
      have hX:=HI.out.ids;rw [List.take_of_length_le (by simp)] at hX;go_wp2;go_ret;exact ⟨T',S',_,rfl,hX,HI.out.pre,by simpa using HI.out.few,HI.out.ar,HI.out.grown⟩
end
end Go.Proofs.YtnhekaepgpbijaaGreatDoor
