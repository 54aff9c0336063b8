/-
  The contract of an arena's put: a term is found, or made. Conditions: numbers fit; the library's table is as it was laid.
-/
import Derived.Test.YtnhekaepgpbijaaGreatDoorJBuildAG
import Derived.Test.YtnhekaepgpbijaaGreatDoorJSignPG
import Derived.Test.YtnhekaepgpbijaaGreatDoorJAsG
import Derived.StillTailTactics
import Derived.Deep.RegionLaw
import Derived.Deep.RegionHeld3
import Derived.Deep.DeepCutAuto
import Derived.Deep.AppendLies
set_option linter.unusedVariables false
set_option linter.unusedSimpArgs false
set_option maxHeartbeats 40000000
set_option maxRecDepth 100000
namespace Go.Proofs.YtnhekaepgpbijaaGreatDoor
open Go.RowKit Go.ChangeShapes Go.WideShapes Go.Sort
structure Grown (S:Nat→Prop) (w:World) (S':Nat→Prop) (w':World):Prop where
 os:w'.os=w.os
 tape:w'.tape=w.tape
 output:w'.output=w.output
 size:w.heap.size≤w'.heap.size
 block:∀i,i<w.heap.size→¬ S i→w'.heap[i]?=w.heap[i]?
 sub:∀i,S i→S' i
 new:∀i,S' i→S i∨w.heap.size≤i
theorem Grown.refl (S:Nat→Prop) (w:World):Grown S w S w:=⟨rfl,rfl,rfl,Nat.le_refl _,fun _ _ _=>rfl,fun _ h=>h,fun _ h=>.inl h⟩
theorem Grown.of_below {S:Nat→Prop} {w w':World} (h:Below w.heap.size w w'):Grown S w S w':=⟨h.os,h.tape,h.output,h.size,fun i hi _=>h.block i hi,fun _ h=>h,fun _ h=>.inl h⟩
theorem Grown.trans {S S' S'':Nat→Prop} {w w' w'':World} (h:Grown S w S' w') (k:Grown S' w' S'' w''):Grown S w S'' w'' :=
 ⟨k.os.trans h.os,k.tape.trans h.tape,k.output.trans h.output,Nat.le_trans h.size k.size,fun i hi hn=>(k.block i (Nat.lt_of_lt_of_le hi h.size) (fun h2=>by
  rcases h.new i h2 with h3 | h3
  ·exact hn h3
  ·omega)).trans (h.block i hi hn),fun i hi=>k.sub i (h.sub i hi),fun i hi=>by
  rcases k.new i hi with h3 | h3
  ·exact h.new i h3
  ·exact .inr (Nat.le_trans h.size h3)⟩
theorem Grown.below {S S':Nat→Prop} {w w':World} {B:Nat} (h:Grown S w S' w') (hB:B≤w.heap.size) (hS:∀i,S i→B≤i):Below B w w' :=
 ⟨h.os,h.tape,h.output,h.size,fun i hi=>h.block i (Nat.lt_of_lt_of_le hi hB) (fun h2=>by have:=hS i h2;omega)⟩
def Done (B:Nat) (w:World) (g:Nat) (T:List Tm) (S:Nat→Prop) (o:Option Tm) (e:Ending) (w':World):Prop :=
 ∃T' n S',e=.returned (.int .i64 n)∧Put T o T' n∧Ar B w' g T' S'∧Grown S w S' w'
theorem Done.none_ {B:Nat} {w w':World} {g:Nat} {T:List Tm} {S:Nat→Prop} (h:Ar B w g T S) (hb:Below w.heap.size w w'):Done B w g T S none (.returned (.int .i64 (-1))) w' :=
 ⟨T,-1,S,rfl,Ml T,h.below hb,Grown.of_below hb⟩
theorem dh {w0 w1:World} {p:Addr} {v:Value} (hb:Below w0.heap.size w0 w1) (h:w0.cell? p=some v):w1.cell? p=some v:=(hb.cell (World.block_lt_of_cell? w0 _ h)).trans h
theorem Tp {q:Nat} {a b c d e:Value} {w1 W:World} (h0:w1.cell? ⟨q,0,none⟩=some a) (h1:w1.cell? ⟨q,1,none⟩=some b) (h2:w1.cell? ⟨q,2,none⟩=some c) (h3:w1.cell? ⟨q,3,none⟩=some d) (h4:w1.cell? ⟨q,4,none⟩=some e) (hb:Below w1.heap.size w1 W) :
  W.cell? ⟨q,0,none⟩=some a∧W.cell? ⟨q,1,none⟩=some b∧W.cell? ⟨q,2,none⟩=some c∧W.cell? ⟨q,3,none⟩=some d∧W.cell? ⟨q,4,none⟩=some e :=
 ⟨dh hb h0,dh hb h1,dh hb h2,dh hb h3,dh hb h4⟩
def D8 (k a b:Nat) (s r:ByteArray) (w1:World) (v:Value) (wx:World):Prop :=
 ∃q,v=.pointer (some ⟨q,0,none⟩)∧w1.heap.size≤q∧Blk wx q 184 #[.int .i64 k,.int .i64 a,.int .i64 b,.string s,.string r]∧Below w1.heap.size w1 wx
theorem D8.new_ {k a b:Nat} {s r:ByteArray} {w1 wj:World} (h:Below w1.heap.size w1 wj):D8 k a b s r w1 (.pointer (some ⟨wj.heap.size,0,none⟩)) (wj.alloc (.cells #[.int .i64 k,.int .i64 a,.int .i64 b,.string s,.string r] 184)) :=
 ⟨_,rfl,h.size,Blk.new _ _ _,h.alloc h.size _⟩
theorem D8.old_ {k a b:Nat} {s r:ByteArray} {w1 wj w2:World} {c0 c1 c2 c3 c4:Value} (h2:Below w1.heap.size w1 w2) (hb:Blk w2 w1.heap.size 184 #[c0,c1,c2,c3,c4]) (h:Below w2.heap.size w2 wj) :
  D8 k a b s r w1 (.pointer (some ⟨w1.heap.size,0,none⟩)) (((((wj.setCell ⟨w1.heap.size,0,none⟩ (.int .i64 k)).setCell ⟨w1.heap.size,1,none⟩ (.int .i64 a)).setCell ⟨w1.heap.size,2,none⟩ (.int .i64 b)).setCell ⟨w1.heap.size,3,none⟩ (.string s)).setCell ⟨w1.heap.size,4,none⟩ (.string r)):=by
 have h1:=h2.trans (h.mono h2.size);refine ⟨_,rfl,Nat.le_refl _,?_,Below.setCell (p:=⟨w1.heap.size,4,none⟩) (Below.setCell (p:=⟨w1.heap.size,3,none⟩) (Below.setCell (p:=⟨w1.heap.size,2,none⟩) (Below.setCell (p:=⟨w1.heap.size,1,none⟩) (Below.setCell (p:=⟨w1.heap.size,0,none⟩) h1 (Nat.le_refl _) _) (Nat.le_refl _) _) (Nat.le_refl _) _) (Nat.le_refl _) _) (Nat.le_refl _) _⟩;have h3:=(((((hb.below h hb.lt).set_ 0 (.int .i64 k)).set_ 1 (.int .i64 a)).set_ 2 (.int .i64 b)).set_ 3 (.string s)).set_ 4 (.string r);simpa using h3
def Rs (nv sv:Value) (i:Nat):Prop:=nv.ownBlock=some i∨sv.ownBlock=some i
def Rg (g:Nat) (nv sv:Value) (i:Nat):Prop:=i=g∨Rs nv sv i
theorem eQ {W:World} {b:Nat} {t:TypeId} {us:List Value} {size m:Nat} (h:Blk W b t us.toArray) (hl:us.length=m*size):Reads W W.heap.size size (some ⟨b,0,none⟩) m us :=
 ⟨hl,fun _=>⟨_,rfl,h.lt,fun j u hu=>by rw [bJ,h.cell j];simpa using hu⟩⟩
theorem tZ {R:Nat→Prop} {W0 W:World} (_:cK R W0 W) (cs:Array Value) (t:TypeId):Blk (W.alloc (.cells cs t)) W.heap.size t cs:=Blk.new _ _ _
theorem ql {v:Value} {row:Option Nat} (h:∀i,v.ownBlock=some i→row≠some i):v.ownBlock=none∨v.ownBlock≠row:=by
 cases e:v.ownBlock with
 | none=>exact .inl rfl
 | some i=>exact .inr fun e2=>h i e e2.symm
theorem yc {v v':Value} {n m:Nat} (h:v'.ownBlock=v.ownBlock∨v'.ownBlock=some n) (hz:m≤n):∀i,v'.ownBlock=some i→v.ownBlock=some i∨m≤i:=by
 intro i hi;rcases h with h | h
 ·exact .inl (h.symm.trans hi)
 ·rw [h] at hi
  cases hi
  exact .inr hz
theorem eF {W:World} {B g size n:Nat} {e t:TypeId} {v:Value} {xs:List Value} {cs:Array Value} (h:W.ownsRow B e size v n xs) (hb:Blk W g t cs) (hne:e≠t) (c:Nat) (u:Value):(W.setCell ⟨g,c,none⟩ u).ownsRow B e size v n xs :=
 h.kept (ag (aj W (some g)) (.inl rfl) u) (.inr (aS h hb hne))
def Two (B g mb n:Nat) (xs ys:List Value) (nv sv:Value) (W0:World) (s:Value) (W:World):Prop :=
 ∃A7 c7 A8 c8,s=.slice A7 n c7∧Blk W g 106 #[.slice A7 n c7,.slice A8 n c8,.map (some mb)]∧W.ownsRow B 126 5 (.slice A7 n c7) n xs∧W.ownsRow B 3 1 (.slice A8 n c8) n ys∧cK (Rg g nv sv) W0 W ∧
  (∀i,(Value.slice A7 n c7).ownBlock=some i→nv.ownBlock=some i∨W0.heap.size≤i)∧(∀i,(Value.slice A8 n c8).ownBlock=some i→sv.ownBlock=some i∨W0.heap.size≤i)
theorem Two.mk_ {B g mb n:Nat} {xs ys:List Value} {nv sv:Value} {W0 W:World} {A7 A8:Option Addr} {c7 c8:Nat} (h1:Blk W g 106 #[.slice A7 n c7,.slice A8 n c8,.map (some mb)]) (h2:W.ownsRow B 126 5 (.slice A7 n c7) n xs) (h3:W.ownsRow B 3 1 (.slice A8 n c8) n ys) (h4:cK (Rg g nv sv) W0 W)
  (h5:∀i,(Value.slice A7 n c7).ownBlock=some i→nv.ownBlock=some i∨W0.heap.size≤i) (h6:∀i,(Value.slice A8 n c8).ownBlock=some i→sv.ownBlock=some i∨W0.heap.size≤i):Two B g mb n xs ys nv sv W0 (.slice A7 n c7) W :=
 ⟨_,_,_,_,rfl,h1,h2,h3,h4,h5,h6⟩
theorem cK.map_ {R:Nat→Prop} {w w':World} {mb n:Nat} {D:DataW Unit} (h:cK R w w') (hm:w.ownsMap Tryz.prog 184 (plainElem Tryz.prog 39) mb n D) (hn:¬ R mb):w'.ownsMap Tryz.prog 184 (plainElem Tryz.prog 39) mb n D:=by
 obtain ⟨es,clock,hb,F,h3,h4⟩:=hm;refine ⟨es,clock,(h.block mb ?_ hn).trans hb,F,h3,h4⟩;rcases Nat.lt_or_ge mb w.heap.size with hlt | hge
 ·exact hlt
 ·rw [Array.getElem?_eq_none hge] at hb;cases hb
theorem Jf {B g mb:Nat} {w W0 wy wz:World} {T:List Tm} {S:Nat→Prop} {nv sv av:Value} {rows:List (List Value)} {D:DataW Unit} {t:Tm} {js:List Nat} {kl:Lit} {A7 A8:Option Addr} {c7 c8:Nat}
  (hA:ArX B W0 g T S nv sv mb rows D) (hSL:∀i,S i→i<w.heap.size) (hbW:Below w.heap.size w W0) (hm:t ∉ T) (hg:good t) (hz:(enc t).length≤131072) (hj:dJ T t.l js) (hk:lH t js kl)
  (hO:cK (Rg g nv sv) W0 wy) (hgz:wy.grownBy wz (some mb))
  (hblk:Blk wy g 106 #[.slice A7 (T.length+1) c7,.slice A8 (T.length+1) c8,.map (some mb)])
  (hn:wy.ownsRow B 126 5 (.slice A7 (T.length+1) c7) (T.length+1) (rows.flatten++[.int .i64 t.k,.int .i64 t.a,.int .i64 t.b,.string t.s,av]))
  (hs:wy.ownsRow B 3 1 (.slice A8 (T.length+1) c8) (T.length+1) ((T.map fun t=>.int .i64 ((enc t).length:Nat))++[.int .i64 ((enc t).length:Nat)]))
  (hmap:wz.ownsMap Tryz.prog 184 (plainElem Tryz.prog 39) mb (T.length+1) (D.put kl (.lit (.int .i64 T.length))))
  (ha:W0.ownsRow w.heap.size 39 1 av js.length ((js.map Int.ofNat).map (Value.int .i64)))
  (zn:∀i,(Value.slice A7 (T.length+1) c7).ownBlock=some i→nv.ownBlock=some i∨W0.heap.size≤i) (zs:∀i,(Value.slice A8 (T.length+1) c8).ownBlock=some i→sv.ownBlock=some i∨W0.heap.size≤i) (hB:B≤w.heap.size) :
  Done B w g T S (some t) (.returned (.int .i64 T.length)) wz:=by
 have hok:AOK (T++[t]):=PM hA.ok (o:=some t) (n:=T.length) (fun u hu=>by cases hu;exact ⟨hg,hz⟩) (fun u hu c hc=>by
  cases hu
  have h1:some c∈js.map (fun j=>T[j]?):=by
   rw [hj];exact List.mem_map.2 ⟨c,hc,rfl⟩
  obtain ⟨j,_,h2⟩:=List.mem_map.1 h1
  exact ⟨j,h2⟩) (F6 hm)
 have hRw:∀i,Rw g mb nv sv i→S i:=by
  rintro i (rfl | rfl | h | h)
  ·exact hA.sg
  ·exact hA.sm
  ·exact hA.sn i h
  ·exact hA.ss i h
 have hO2:cK (Rw g mb nv sv) W0 wz:=(hO.mono (R':=Rw g mb nv sv) (by
  rintro i (rfl | h | h)
  ·exact .inl rfl
  ·exact .inr (.inr (.inl h))
  ·exact .inr (.inr (.inr h)))).grown hgz (fun b e=>by cases e;exact .inl (.inr (.inl rfl)))
 have hgm:g≠mb:=uq hA.blk hA.map;have hW:=hbW.size;have aw:∀i,av.ownBlock=some i→w.heap.size≤i:=fun i hi=>(ha.lt i hi).1
 have ha2:wz.ownsRow w.heap.size 39 1 av js.length ((js.map Int.ofNat).map (Value.int .i64)):=hO2.own ha fun i hi h=>by
  have:=hSL i (hRw i h);have:=aw i hi;omega
 have hmz:wz.ownsMap Tryz.prog 184 (plainElem Tryz.prog 39) mb (T.length+1) (D.put kl (.lit (.int .i64 T.length))):=hmap
 have kn:∀{e:TypeId} {size n:Nat} {v:Value} {xs:List Value},wy.ownsRow B e size v n xs→wz.ownsRow B e size v n xs:=fun {e size n v xs} h=>by
  refine h.kept hgz ?_
  cases ev:v.ownBlock with
  | none=>exact .inl rfl
  | some i =>
   right;intro e2;cases e2
   obtain ⟨es,clock,hb,_⟩:=hA.map
   have hmR:¬ Rg g nv sv mb:=by
    rintro (h1 | h1 | h1)
    ·exact hgm h1.symm
    ·exact iy hA.nodes hA.map h1
    ·exact iy hA.sizes hA.map h1
   exact iy h (hO.map_ hA.map hmR) ev
 have hB2:∀i,av.ownBlock=some i→B≤i:=fun i hi=>Nat.le_trans hB (aw i hi)
 have ha3:wz.ownsRow B 39 1 av js.length ((js.map Int.ofNat).map (Value.int .i64)):=lF ha2 hB
 obtain ⟨S',h1,h2,h3⟩:=hA.push2 hok hO2 (hblk.grown hgz (fun e=>hgm (by cases e;rfl))) (kn hn) (kn hs) hmz (Idx.put hA.ok hA.idx hm hj hk) hj ha3
  (fun i hi=>(zn i hi).elim (fun h=>.inl (hA.sn i h)) .inr) (fun i hi=>(zs i hi).elim (fun h=>.inl (hA.ss i h)) .inr) (m:=w.heap.size) hW aw
 refine ⟨T++[t],T.length,S',rfl,F6 hm,h1,?_⟩;refine ⟨hO2.os.trans hbW.os,hO2.tape.trans hbW.tape,hO2.output.trans hbW.output,Nat.le_trans hW hO2.size,fun i hi hnS=>(hO2.block i (Nat.lt_of_lt_of_le hi hW) (fun h=>hnS (hRw i h))).trans (hbW.block i hi),h2,h3⟩
theorem TC {x:Operand} {k a b:Int} {s:ByteArray} {A:Option Addr} {n c:Nat} (o:Oper) (ho:o.op=.buildSlice 104 1 #[(0,x)]) (ρ:Operand→Value) (hρ:ρ x=.agg #[.int .i64 k,.int .i64 a,.int .i64 b,.string s,.slice A n c]) (w:World) :
  (execOp ρ o).run Tryz.prog w=.ok (.value (.slice (some ⟨w.heap.size,0,none⟩) 1 1)) (w.alloc (.cells #[.int .i64 k,.int .i64 a,.int .i64 b,.string s,.slice A n c] 126)):=by
 obtain ⟨d,op,t,p,af,gd⟩:=o;simp only at ho;subst ho;go_simp
theorem RG {x:Operand} {k:Int} (o:Oper) (ho:o.op=.buildSlice 26 1 #[(0,x)]) (ρ:Operand→Value) (hρ:ρ x=.int .i64 k) (w:World) :
  (execOp ρ o).run Tryz.prog w=.ok (.value (.slice (some ⟨w.heap.size,0,none⟩) 1 1)) (w.alloc (.cells #[.int .i64 k] 3)):=by
 obtain ⟨d,op,t,p,af,gd⟩:=o;simp only at ho;subst ho;go_simp
theorem Jo {x:Operand} {q:Addr} (o:Oper) (ho:o.op=.nilCheck x) (ρ:Operand→Value) (hρ:ρ x=.pointer (some q)) (w:World):(execOp ρ o).run Tryz.prog w=.ok (.value (.pointer (some q))) w:=by
 obtain ⟨d,op,t,p,af,gd⟩:=o;simp only at ho;subst ho;go_simp
theorem KE {x:Operand} {g:Nat} (o:Oper) (ho:o.op=.fieldAddr 106 x 0) (ρ:Operand→Value) (hρ:ρ x=.pointer (some ⟨g,0,none⟩)) (w:World):(execOp ρ o).run Tryz.prog w=.ok (.value (.pointer (some ⟨g,0,none⟩))) w:=by
 obtain ⟨d,op,t,p,af,gd⟩:=o;simp only at ho;subst ho;go_simp
theorem Na {x y:Operand} {g n c:Nat} {A:Option Addr} {cs:Array Value} (o:Oper) (ho:o.op=.store 104 x y) (ρ:Operand→Value) (hρ:ρ x=.pointer (some ⟨g,0,none⟩)) (hρ2:ρ y=.slice A n c) (w:World) (hb:Blk w g 106 cs) (hc:0<cs.size:=by simp):(execOp ρ o).run Tryz.prog w=.ok .skip (w.setCell ⟨g,0,none⟩ (.slice A n c)):=by
 obtain ⟨d,op,t,p,af,gd⟩:=o;simp only at ho;subst ho;have cc:w.cell? ⟨g,0,none⟩=some cs[0]:=(hb.cell 0).trans (Array.getElem?_eq_getElem hc);have cf:=hb.frozen 0;go_simp
theorem MO {x:Operand} {g:Nat} (o:Oper) (ho:o.op=.fieldAddr 106 x 1) (ρ:Operand→Value) (hρ:ρ x=.pointer (some ⟨g,0,none⟩)) (w:World):(execOp ρ o).run Tryz.prog w=.ok (.value (.pointer (some ⟨g,1,none⟩))) w:=by
 obtain ⟨d,op,t,p,af,gd⟩:=o;simp only at ho;subst ho;go_simp
theorem LM {x y:Operand} {g n c:Nat} {A:Option Addr} {cs:Array Value} (o:Oper) (ho:o.op=.store 26 x y) (ρ:Operand→Value) (hρ:ρ x=.pointer (some ⟨g,1,none⟩)) (hρ2:ρ y=.slice A n c) (w:World) (hb:Blk w g 106 cs) (hc:1<cs.size:=by simp):(execOp ρ o).run Tryz.prog w=.ok .skip (w.setCell ⟨g,1,none⟩ (.slice A n c)):=by
 obtain ⟨d,op,t,p,af,gd⟩:=o;simp only at ho;subst ho;have cc:w.cell? ⟨g,1,none⟩=some cs[1]:=(hb.cell 1).trans (Array.getElem?_eq_getElem hc);have cf:=hb.frozen 1;go_simp
def Gb:Value:=.agg #[.int .i64 0,.int .i64 0,.int .i64 0,.string ⟨#[]⟩,.slice none 0 0]
theorem uQ:(Tryz.prog.info? 126).map (fun i=>(i.zero,i.size,i.bytes))=some (some Gb,5,64):=by kernel_rfl
theorem yt:(Tryz.prog.info? 3).map (fun i=>(i.zero,i.size,i.bytes))=some (some (.int .i64 0),1,8):=by kernel_rfl
section
variable {B g : Nat} {w : World} {T : List Tm} {S : Nat → Prop}
theorem Ar.size_at (h:Ar B w g T S) {i:Nat} {t:Tm} (hi:T[i]?=some t):∃sb cap,w.cell? ⟨g,1,none⟩=some (.slice (some ⟨sb,0,none⟩) T.length cap)∧w.cell? ⟨sb,i,none⟩=some (.int .i64 ((enc t).length:Nat)):=by
 obtain ⟨nv,sv,mb,rows,D,h⟩:=h;obtain ⟨sb,cap,rfl,_,hc⟩:=h.size_at hi;exact ⟨sb,cap,h.blk.cell 1,hc⟩
theorem Qg (h:Ar B w g T S) (ht:Tab w) (hB:B≤w.heap.size) (hT:T.length≤1000000000) {k a b:Nat} {s:ByteArray} {av:Value} {ns:List Int} (hI:Ids w av ns) (ha:a<4294967296) (hb:b<4294967296) (hs:s.size≤1000000) (hn:ns.length≤40)
  (hh:∀l,iQ T ns=some l→hd k a b s l.length∧kids k l) :
  Calls Tryz.prog 52 #[.pointer (some ⟨g,0,none⟩),.agg #[.int .i64 k,.int .i64 a,.int .i64 b,.string s,av]] w (Done B w g T S (eP T k a b s ns)):=by
 obtain ⟨A,c,rfl,hr⟩:=hI;have Hh:=hide hh;clear hh;have Har:=hide h;have HT:=hide ht;clear ht;have hgl:=h.lt;clear h
 have hoN:Cs k s≤1000009:=by
  unfold Cs
  repeat' (first | omega | split)
 go_enter Tryz.func52,Tryz.ntmps52;go_wp2_with (go_at_call 98;refine (Pm _ (by omega)).mono ?_;rintro e w1 ⟨rfl,hb1⟩;obtain ⟨hc1,hf1⟩:=xK hb1;have hz1:w.heap.size<w1.heap.size:=(by have:=hb1.size;simp at this;omega));have hbw:Below w.heap.size w w1:=((Below.refl _ _).alloc (Nat.le_refl _) _).trans (hb1.mono (by simp));have hbx:Blk w1 w.heap.size 126 #[.int .i64 k,.int .i64 a,.int .i64 b,.string s,.slice A ns.length c]:=(Blk.new w _ _).below hb1 (by simp);have h1:=Har.out.below hbw;have hr1:Sl 0 w1 1 A ns.length (ns.map (Value.int .i64)):=hr.below hbw;have ht1:=HT.out.below hbw;clear hc1 hf1 hb1
 go_loop [19,7,5] (fun i _ z=>∃(j:Nat) (l:List Tm),j≤ns.length∧i=.int .i64 j∧iQ T (ns.take j)=some l∧z=.int .i64 ((Cs k s+(encs l).length:Nat):Int)∧(encs l).length≤j*131072) (fun i _ _=>ns.length - (intOf i).toNat)
 case atStart=>exact ⟨0,[],Nat.zero_le _,rfl,rfl,rfl,Nat.le_refl _⟩
 case round =>
  obtain ⟨j,l,hj,rfl,hl,rfl,hlen⟩:=hrel
  by_cases hlt:j<ns.length
  ·have hji:(j:Int)<ns.length:=by omega
   obtain ⟨ad,u,rfl,_,hab,hu,hc0⟩:=hr1.at_ hlt;simp only [List.getElem?_map,List.getElem?_eq_getElem hlt,Option.map_some,Option.some.injEq] at hu;subst hu;have Hl:=hide hl;clear hl
   cases e:arg T ns[j] with
   | none =>
    have hH:=hide (lu h1 ns[j]);rw [e] at hH;have Ho:=hide (show eP T k a b s ns=none by unfold eP;rw [IJ (List.getElem_mem hlt) e]);clear e;generalize ns[j]=n at hc0 hH;go_wp2_with (go_at_call 97;refine hH.out.mono ?_;rintro e w2 ⟨rfl,rfl⟩);go_ret;rw [Ho.out];exact Done.none_ Har.out hbw
   | some t =>
    obtain ⟨i,hni,hi⟩:=jA e;have hH:=hide (lu h1 ns[j]);rw [e,hni] at hH;obtain ⟨sb,cap,d1,d2⟩:=h1.size_at hi;have hil:=(List.getElem?_eq_some_iff.1 hi).1;have hii:(i:Int)<T.length:=by omega
    have htl:=(Har.out.ok.fine t (List.mem_of_getElem? hi)).2;have hsn:=JU Hl.out e;rw [←List.take_succ_eq_append_getElem hlt] at hsn;have Hsn:=hide hsn;have hel:=vR l t;have Hel:=hide hel;rw [hni] at hc0;clear e hni hi hsn hel;generalize (enc t).length=et at d2 htl Hel;generalize (encs l).length=el at hlen Hel;have h40:j≤40:=by omega
    have hel2:el≤40*131072:=Nat.le_trans hlen (Nat.mul_le_mul_right _ h40);go_wp2_with (go_at_call 97;refine hH.out.mono ?_;rintro e w2 ⟨rfl,rfl⟩);go_round
    case rel=>exact ⟨j+1,l++[t],hlt,by go_num,Hsn.out,by rw [Hel.out];go_num,by rw [Hel.out];omega⟩
    case measure=>simp [intOf];omega
  ·have hji:¬ (j:Int)<ns.length:=by omega
   obtain rfl:j=ns.length:=by omega
   rw [List.take_length] at hl;obtain ⟨hhd,hki⟩:=Hh.out l hl
   obtain ⟨t,htd⟩:∃t,t=Tm.mk k a b s l:=⟨_,rfl⟩
   have hsize:(enc t).length=Cs k s+(encs l).length:=by
    rw [htd];simp only [enc,List.length_append];rw [MV hhd]
   have hno:eP T k a b s ns=lim t:=by
    unfold eP;rw [hl,htd]
   have Ht:=hide htd;have Hhd:=hide hhd;have Hki:=hide hki;have Hl:=hide hl;rw [←hsize];have Hsz:=hide hsize
   by_cases hmax:(enc t).length≤131072
   ·have Ho:=hide (show eP T k a b s ns=some t by rw [hno,lim,if_pos hmax])
    have hmi:((enc t).length:Int)≤131072:=by omega
    clear hhd hki htd hl hsize hno hlen hoN;have Hmax:=hide hmax;clear hmax;obtain ⟨js,hns,hargs⟩:=pY Hl.out;have hjl:js.length=ns.length:=by rw [hns];simp
    have hjb:∀j∈js,j≤9223372036854775807:=by
     intro j hj
     have h2:T[j]?∈l.map some:=by
      rw [←hargs];exact List.mem_map.2 ⟨j,hj,rfl⟩
     obtain ⟨u,_,hu⟩:=List.mem_map.1 h2;have:=(List.getElem?_eq_some_iff.1 hu.symm).1;omega
    have hids:Ids w1 (.slice A ns.length c) (js.map Int.ofNat):=by
     rw [←hns];exact ⟨A,c,rfl,hr1⟩
    have HJ:=hide (fun w2 (hb2:Below w1.heap.size w1 w2)=>Ku (w:=w2) (hids.below hb2) (ht1.below hb2) (by omega) hjb);have HI:=hide hids;have Hargs:=hide hargs;have Hns:=hide hns;have b0:w1.cell? ⟨w.heap.size,0,none⟩=some (.int .i64 k):=hbx.cell 0;have b1:w1.cell? ⟨w.heap.size,1,none⟩=some (.int .i64 a):=hbx.cell 1;have b2:w1.cell? ⟨w.heap.size,2,none⟩=some (.int .i64 b):=hbx.cell 2;have b3:w1.cell? ⟨w.heap.size,3,none⟩=some (.string s):=hbx.cell 3;have b4:w1.cell? ⟨w.heap.size,4,none⟩=some (.slice A ns.length c):=hbx.cell 4;clear hids hargs hns hjb hr1 hr;go_upto_region 13 with fail;go_cut [8] (fun s8 wx=>D8 k a b s (kU js) w1 s8 wx)
    case first =>
     go_region_held3 (fun w'=>w'.cell? ⟨w.heap.size,0,none⟩=some (.int .i64 k)∧w'.cell? ⟨w.heap.size,1,none⟩=some (.int .i64 a)∧w'.cell? ⟨w.heap.size,2,none⟩=some (.int .i64 b)∧w'.cell? ⟨w.heap.size,3,none⟩=some (.string s)∧w'.cell? ⟨w.heap.size,4,none⟩=some (.slice A ns.length c))
      (first | exact Tp b0 b1 b2 b3 b4 (by exact aa))
      (first
      | (go_at_call 99;refine (HJ.out _ (by exact aa)).mono ?_;rintro e wj ⟨rfl,hbj⟩;obtain ⟨hcj,hfj⟩:=xK hbj;have hzj:=hbj.size))
     ·clear hcj hfj
      go_wp2_with fail;go_meet;exact D8.new_ (by exact aa)
     ·clear hcj hfj
      go_wp2_with fail;go_meet;exact D8.old_ (by exact aa) (Blk.drew (Blk.new _ _ _)) hbj
    case rest =>
     as_aux_lemma =>
     obtain ⟨q,rfl,hq,hBq,hbq⟩:=hcut
     obtain ⟨wx,rfl⟩:∃wx:World,wx=wc:=⟨wc,rfl⟩
     clear b0 b1 b2 b3 b4 h1;have hwz:w.heap.size<w1.heap.size:=hz1;have hbwx:Below w.heap.size w wx:=mo hbw hbq;have hxb:=hbx.below hbq hbx.lt;obtain ⟨nv,sv,mb,rows,D,hA⟩:=Har.out.below hbwx;obtain ⟨An,cn,rfl⟩:=hA.nslice;obtain ⟨As,cs,rfl⟩:=hA.sslice;have HA:=hide hA;have d0:wx.cell? ⟨g,0,none⟩=some (.slice An T.length cn):=hA.blk.cell 0;have d2:wx.cell? ⟨g,2,none⟩=some (.map (some mb)):=hA.blk.cell 2;have e0:wx.cell? ⟨q,0,none⟩=some (.int .i64 k):=hBq.cell 0;have e1:wx.cell? ⟨q,1,none⟩=some (.int .i64 a):=hBq.cell 1;have e2:wx.cell? ⟨q,2,none⟩=some (.int .i64 b):=hBq.cell 2;have e3:wx.cell? ⟨q,3,none⟩=some (.string s):=hBq.cell 3;have e4:wx.cell? ⟨q,4,none⟩=some (.string (kU js)):=hBq.cell 4;have hkt:D7 t js=.agg #[.int .i64 k,.int .i64 a,.int .i64 b,.string s,.string (kU js)]:=by rw [Ht.out];rfl
     have hjs:(kU js).size≤1000000:=by
      have h2:=x8 (js:=js) fun j hj=>by
       have h3:T[j]?∈l.map some:=by
        rw [←Hargs.out];exact List.mem_map.2 ⟨j,hj,rfl⟩
       obtain ⟨u,_,hu⟩:=List.mem_map.1 h3;have:=(List.getElem?_eq_some_iff.1 hu.symm).1;omega
      show (fM js).length≤_;omega
     have hk10:=(zg Hhd.out).2;obtain ⟨kl,hkl⟩:∃kl,keyOf Tryz.prog 184 (Kv k a b s (kU js))=some kl:=N9 (by simp [Lit.wf,IntKind.min,IntKind.max,IntKind.signed,IntKind.bits];omega) (by simp [Lit.wf,IntKind.min,IntKind.max,IntKind.signed,IntKind.bits];omega) (by simp [Lit.wf,IntKind.min,IntKind.max,IntKind.signed,IntKind.bits];omega) (by unfold maxLen;omega) (by unfold maxLen;omega);have hKO:lH t js kl:=by unfold lH;rw [hkt];exact hkl
     have hjt:dJ T t.l js:=by rw [Ht.out];exact Hargs.out
     have HK:=hide hKO;have Hjt:=hide hjt;have Hkt:=hide hkt;have Hkl:=hide hkl;have hzx:w.heap.size<wx.heap.size:=hxb.lt;have x4:wx.cell? ⟨w.heap.size,4,none⟩=some (.slice A ns.length c):=hxb.cell 4;have xf:wx.frozen? ⟨w.heap.size,4,none⟩=false:=hxb.frozen 4;have Hxb:=hide hxb;have HBq:=hide hBq;clear hkl hKO hjt hkt hxb hA hBq
     by_cases hmem:t∈T
     ·obtain ⟨i,hi⟩:=List.getElem?_of_mem hmem
      have hlk:∀n,(Instr.lookup 103 (.map (some mb)) (.agg #[.int .i64 k,.int .i64 a,.int .i64 b,.string s,.string (kU js)]) true).run Tryz.prog (wx.drewN n)=.ok (.tuple #[.int .i64 i,.bool true]) (wx.drewN n):=fun n=>by
       rw [←Hkt.out];exact Og (w:=wx.drewN n) HA.out.map HA.out.idx hi Hjt.out HK.out
      have Hi:=hide hi;clear hi hmem;go_wp2_with fail;go_quiet (fail);go_wp2;go_ret;rw [Ho.out];exact ⟨T,i,S,rfl,Ql Hi.out,Har.out.below (below_drewN hbwx _),Grown.of_below (below_drewN hbwx _)⟩
     ·have hlk:∀n,(Instr.lookup 103 (.map (some mb)) (.agg #[.int .i64 k,.int .i64 a,.int .i64 b,.string s,.string (kU js)]) true).run Tryz.prog (wx.drewN n)=.ok (.tuple #[.int .i64 0,.bool false]) (wx.drewN n):=fun n=>by
       rw [←Hkt.out];exact OC (w:=wx.drewN n) HA.out.map HA.out.idx HK.out Hjt.out hmem
      have Hmem:=hide hmem;clear hmem;go_wp2_with fail;go_quiet (fail)
      go_upto_region 19 with (go_at_call 100;refine (qg (HI.out.below (below_drewN hbq _)) (by simp;omega)).mono ?_;rintro e w3 ⟨v',rfl,hown,hb3⟩;simp only [List.length_map,hjl] at hown;obtain ⟨A2,c2,rfl⟩:=gH hown;have y4:=((xK hb3).1 w.heap.size 4 hzx).trans x4;have yf:=((xK hb3).2 w.heap.size 4 hzx).trans xf)
      have hb3x:Below wx.heap.size wx w3:=(below_drewN (Below.refl _ _) _).trans hb3;have Hown:=hide hown;clear y4 yf hb3 hown e0 e1 e2 e3 e4 d0 d2 x4 xf hlk
      obtain ⟨W0,hW0⟩:∃W,W=w3.setCell ⟨w.heap.size,4,none⟩ (.slice A2 ns.length c2):=⟨_,rfl⟩
      rw [←hW0];have hS3:¬ S w.heap.size:=fun h=>absurd (Har.out.sL _ h) (by omega)
      have hA0:ArX B W0 g T S (.slice An T.length cn) (.slice As T.length cs) mb rows D:=(HA.out.kept (ai hb3x none) (fun _ e=>by cases e)).kept (row:=some w.heap.size) (by rw [hW0];exact ag (aj w3 _) (.inl rfl) _) (fun b e=>by cases e;exact hS3)
      have hX0:Blk W0 w.heap.size 126 #[.int .i64 k,.int .i64 a,.int .i64 b,.string s,.slice A2 ns.length c2]:=by
       rw [hW0];have:=(Hxb.out.below hb3x Hxb.out.lt).set_ 4 (.slice A2 ns.length c2);simpa using this
      have hQ0:Blk W0 q 184 #[.int .i64 k,.int .i64 a,.int .i64 b,.string s,.string (kU js)]:=by
       rw [hW0];exact (HBq.out.below hb3x HBq.out.lt).far (by simp;omega) _
      have hown0:W0.ownsRow w.heap.size 39 1 (.slice A2 ns.length c2) ns.length ((js.map Int.ofNat).map (Value.int .i64)):=by
       rw [hW0];have h2:=Hown.out;exact lF (kK (b:=wx.heap.size) h2 hzx _) (Nat.le_of_lt hzx)
      have hbW0:Below w.heap.size w W0:=by
       rw [hW0];exact (mo hbwx hb3x).setCell (Nat.le_refl _) _
      clear hW0 Hown Hxb HBq hb3x;have HA0:=hide hA0;have HO0:=hide hown0;have HX0:=hide hX0;have HQ0:=hide hQ0;clear HA hown0 hQ0;go_cut [79] (fun s79 wy=>Two B g mb (T.length+1) (rows.flatten++[.int .i64 k,.int .i64 a,.int .i64 b,.string s,.slice A2 ns.length c2]) ((T.map fun t=>.int .i64 ((enc t).length:Nat))++[.int .i64 ((enc t).length:Nat)]) (.slice An T.length cn) (.slice As T.length cs) W0 s79 wy)
      case first =>
       as_aux_lemma =>
       have g0:W0.cell? ⟨g,0,none⟩=some (.slice An T.length cn):=hA0.blk.cell 0;have g1:W0.cell? ⟨g,1,none⟩=some (.slice As T.length cs):=hA0.blk.cell 1;have x0:W0.cell? ⟨w.heap.size,0,none⟩=some (.int .i64 k):=hX0.cell 0;have x1:W0.cell? ⟨w.heap.size,1,none⟩=some (.int .i64 a):=hX0.cell 1;have x2:W0.cell? ⟨w.heap.size,2,none⟩=some (.int .i64 b):=hX0.cell 2;have x3:W0.cell? ⟨w.heap.size,3,none⟩=some (.string s):=hX0.cell 3;have x4:W0.cell? ⟨w.heap.size,4,none⟩=some (.slice A2 ns.length c2):=hX0.cell 4;have ng:¬ Rs (.slice An T.length cn) (.slice As T.length cs) g:=fun h=>h.elim (aS hA0.nodes hA0.blk (by decide)) (aS hA0.sizes hA0.blk (by decide))
       have nx:¬ Rs (.slice An T.length cn) (.slice As T.length cs) w.heap.size:=fun h=>hS3 (h.elim (hA0.sn _) (hA0.ss _))
       have hn0:=hA0.nodes;have hs0:=hA0.sizes;have hbg0:=hA0.blk;have hnlt:∀i,Value.ownBlock (.slice An T.length cn)=some i→i<W0.heap.size:=fun i hi=>hA0.sL i (hA0.sn i hi)
       have hB0:B≤W0.heap.size:=Nat.le_trans hB hbW0.size;have hone:∀u∈([.int .i64 k,.int .i64 a,.int .i64 b,.string s,.slice A2 ns.length c2]:List Value),u.oneCell'=true:=by simp [Value.oneCell']
       have hone1:∀u∈([.int .i64 ((enc t).length:Nat)]:List Value),u.oneCell'=true:=by simp [Value.oneCell']
       have Hone:=hide hone;have Hone1:=hide hone1;clear hone hone1
       try clear Hh
       try clear HT
       try clear hgl
       try clear hbw
       try clear ht1
       try clear hj
       try clear hlt
       try clear Ht
       try clear Hhd
       try clear Hki
       try clear Hl
       try clear Hsz
       try clear Ho
       try clear hmi
       try clear Hmax
       try clear HI
       try clear Hargs
       try clear Hns
       try clear HJ
       try clear hbq
       try clear hbwx
       try clear hjs
       try clear hk10
       try clear HK
       try clear Hjt
       try clear Hkl
       try clear hzx
       try clear Hmem
       try clear hji
       try clear hS3
       try clear hbW0
       try clear HA0
       try clear HO0
       try clear HX0
       try clear HQ0
       try clear Har
       try clear hq
       try clear hwz
       try clear hz1
       try clear ha
       try clear hb
       try clear hs
       try clear hn
       try clear hA0
       try clear hX0
       try clear hjl
       try clear hbx
       try clear Hkt
       go_wp2_with fail;refine iO (cK (Rs (.slice An T.length cn) (.slice As T.length cs)) W0) (fun j=>[5,6,7,8,12,14,15].contains j) (by kernel_rfl) ?_
       obtain ⟨Wd,hWd⟩:∃Wd,Wd=W0.drew:=⟨_,rfl⟩
       rw [←hWd];have hS:cK (Rs (.slice An T.length cn) (.slice As T.length cs)) W0 Wd:=by rw [hWd];exact (cK.refl _ _).drew
       have hn:=hn0;have hs:=hs0;have hbg:=hbg0;change W0.drew.ownsRow _ _ _ _ _ _ at hn;change W0.drew.ownsRow _ _ _ _ _ _ at hs;change Blk W0.drew _ _ _ at hbg;rw [←hWd] at hn hs hbg;clear hWd;refine ay (i:=0) (oi:=?_) (v:=.pointer (some ⟨g,0,none⟩)) ?_ ?_ ?_ ?_ ?_ ?_ ?_ ?_;rotate_left 1
       ·(first | (simp only [List.getElem?_toArray,List.getElem?_cons_succ,List.getElem?_cons_zero];exact rfl) | exact rfl)
       ·kernel_rfl
       ·kernel_rfl
       ·kernel_rfl
       ·rfl
       ·exact fun _ _ _ h=>h
       ·exact Or.inl ⟨by rfl,fun w _=>by go_simp⟩
       try simp only [Act.put,List.setIfInBounds_toArray,List.set_cons_zero,List.set_cons_succ]
       refine ay (i:=1) (oi:=?_) (v:=.pointer (some ⟨g,0,none⟩)) ?_ ?_ ?_ ?_ ?_ ?_ ?_ ?_;rotate_left 1
       ·(first | (simp only [List.getElem?_toArray,List.getElem?_cons_succ,List.getElem?_cons_zero];exact rfl) | exact rfl)
       ·kernel_rfl
       ·kernel_rfl
       ·kernel_rfl
       ·rfl
       ·exact fun _ _ _ h=>h
       ·exact Or.inl ⟨by rfl,fun w _=>by go_simp⟩
       try simp only [Act.put,List.setIfInBounds_toArray,List.set_cons_zero,List.set_cons_succ]
       refine ay (i:=2) (oi:=?_) (v:=.pointer (some ⟨g,0,none⟩)) ?_ ?_ ?_ ?_ ?_ ?_ ?_ ?_;rotate_left 1
       ·(first | (simp only [List.getElem?_toArray,List.getElem?_cons_succ,List.getElem?_cons_zero];exact rfl) | exact rfl)
       ·kernel_rfl
       ·kernel_rfl
       ·kernel_rfl
       ·rfl
       ·exact fun _ _ _ h=>h
       ·exact Or.inl ⟨by rfl,fun w _=>by go_simp⟩
       try simp only [Act.put,List.setIfInBounds_toArray,List.set_cons_zero,List.set_cons_succ]
       refine ay (i:=9) (oi:=?_) (v:=.pointer (some ⟨g,0,none⟩)) ?_ ?_ ?_ ?_ ?_ ?_ ?_ ?_;rotate_left 1
       ·(first | (simp only [List.getElem?_toArray,List.getElem?_cons_succ,List.getElem?_cons_zero];exact rfl) | exact rfl)
       ·kernel_rfl
       ·kernel_rfl
       ·kernel_rfl
       ·rfl
       ·exact fun _ _ _ h=>h
       ·exact Or.inl ⟨by rfl,fun w _=>by go_simp⟩
       try simp only [Act.put,List.setIfInBounds_toArray,List.set_cons_zero,List.set_cons_succ]
       refine ay (i:=13) (oi:=?_) (v:=.int .i64 ((enc t).length:Nat)) ?_ ?_ ?_ ?_ ?_ ?_ ?_ ?_;rotate_left 1
       ·(first | (simp only [List.getElem?_toArray,List.getElem?_cons_succ,List.getElem?_cons_zero];exact rfl) | exact rfl)
       ·kernel_rfl
       ·kernel_rfl
       ·kernel_rfl
       ·rfl
       ·exact fun _ _ _ h=>h
       ·exact Or.inl ⟨by rfl,fun w _=>by go_simp⟩
       try simp only [Act.put,List.setIfInBounds_toArray,List.set_cons_zero,List.set_cons_succ]
       refine ay (i:=3) (oi:=?_) (v:=.pointer (some ⟨g,0,none⟩)) ?_ ?_ ?_ ?_ ?_ ?_ ?_ ?_;rotate_left 1
       ·(first | (simp only [List.getElem?_toArray,List.getElem?_cons_succ,List.getElem?_cons_zero];exact rfl) | exact rfl)
       ·kernel_rfl
       ·kernel_rfl
       ·kernel_rfl
       ·rfl
       ·exact fun _ _ _ h=>h
       ·exact Or.inl ⟨by rfl,fun w _=>by go_simp⟩
       try simp only [Act.put,List.setIfInBounds_toArray,List.set_cons_zero,List.set_cons_succ]
       refine ay (i:=10) (oi:=?_) (v:=.pointer (some ⟨g,0,none⟩)) ?_ ?_ ?_ ?_ ?_ ?_ ?_ ?_;rotate_left 1
       ·(first | (simp only [List.getElem?_toArray,List.getElem?_cons_succ,List.getElem?_cons_zero];exact rfl) | exact rfl)
       ·kernel_rfl
       ·kernel_rfl
       ·kernel_rfl
       ·rfl
       ·exact fun _ _ _ h=>h
       ·exact Or.inl ⟨by rfl,fun w _=>by go_simp⟩
       try simp only [Act.put,List.setIfInBounds_toArray,List.set_cons_zero,List.set_cons_succ]
       refine ay (i:=4) (oi:=?_) (v:=.pointer (some ⟨g,0,none⟩)) ?_ ?_ ?_ ?_ ?_ ?_ ?_ ?_;rotate_left 1
       ·(first | (simp only [List.getElem?_toArray,List.getElem?_cons_succ,List.getElem?_cons_zero];exact rfl) | exact rfl)
       ·kernel_rfl
       ·kernel_rfl
       ·kernel_rfl
       ·rfl
       ·exact fun _ _ _ h=>h
       ·exact Or.inl ⟨by rfl,fun w _=>by go_simp⟩
       try simp only [Act.put,List.setIfInBounds_toArray,List.set_cons_zero,List.set_cons_succ]
       refine ay (i:=11) (oi:=?_) (v:=.pointer (some ⟨g,1,none⟩)) ?_ ?_ ?_ ?_ ?_ ?_ ?_ ?_;rotate_left 1
       ·(first | (simp only [List.getElem?_toArray,List.getElem?_cons_succ,List.getElem?_cons_zero];exact rfl) | exact rfl)
       ·kernel_rfl
       ·kernel_rfl
       ·kernel_rfl
       ·rfl
       ·exact fun _ _ _ h=>h
       ·exact Or.inl ⟨by rfl,fun w _=>by go_simp⟩
       try simp only [Act.put,List.setIfInBounds_toArray,List.set_cons_zero,List.set_cons_succ]
       refine aJ (i:=5) (oi:=?_) (v:=.slice An T.length cn) ?_ ?_ ?_ ?_ ?_ ?_ ?_ hS ?_;rotate_left 1
       ·(first | (simp only [List.getElem?_toArray,List.getElem?_cons_succ,List.getElem?_cons_zero];exact rfl) | exact rfl)
       ·kernel_rfl
       ·kernel_rfl
       ·kernel_rfl
       ·kernel_rfl
       ·exact fun _ _ _ h=>h
       ·refine Or.inl ⟨by rfl,fun w hSw=>?_⟩
        have k0:=hSw.cell g0 ng;clear hSw;go_simp
       try simp only [Act.put,List.setIfInBounds_toArray,List.set_cons_zero,List.set_cons_succ]
       refine aJ (i:=6) (oi:=?_) (v:=.agg #[.int .i64 k,.int .i64 a,.int .i64 b,.string s,.slice A2 ns.length c2]) ?_ ?_ ?_ ?_ ?_ ?_ ?_ hS ?_;rotate_left 1
       ·(first | (simp only [List.getElem?_toArray,List.getElem?_cons_succ,List.getElem?_cons_zero];exact rfl) | exact rfl)
       ·kernel_rfl
       ·kernel_rfl
       ·kernel_rfl
       ·kernel_rfl
       ·exact fun _ _ _ h=>h
       ·refine Or.inl ⟨by rfl,fun w hSw=>?_⟩
        have k0:=hSw.cell x0 nx;have k1:=hSw.cell x1 nx;have k2:=hSw.cell x2 nx;have k3:=hSw.cell x3 nx;have k4:=hSw.cell x4 nx;clear hSw;go_simp
       try simp only [Act.put,List.setIfInBounds_toArray,List.set_cons_zero,List.set_cons_succ]
       refine aJ (i:=12) (oi:=?_) (v:=.slice As T.length cs) ?_ ?_ ?_ ?_ ?_ ?_ ?_ hS ?_;rotate_left 1
       ·(first | (simp only [List.getElem?_toArray,List.getElem?_cons_succ,List.getElem?_cons_zero];exact rfl) | exact rfl)
       ·kernel_rfl
       ·kernel_rfl
       ·kernel_rfl
       ·kernel_rfl
       ·exact fun _ _ _ h=>h
       ·refine Or.inl ⟨by rfl,fun w hSw=>?_⟩
        have k0:=hSw.cell g1 ng;clear hSw;go_simp
       try simp only [Act.put,List.setIfInBounds_toArray,List.set_cons_zero,List.set_cons_succ]
       clear g0 g1 x0 x1 x2 x3 x4;refine ah (rs:=[7,14]) (by kernel_rfl) (by simp) ?_;refine ae.cons (o:=?_) ?_ (fun K hK=>?_) ?_;rotate_left 1
       ·(first | (simp only [List.getElem?_toArray,List.getElem?_cons_succ,List.getElem?_cons_zero];exact rfl) | exact rfl)
       ·skip
        refine iD (.cells #[.int .i64 k,.int .i64 a,.int .i64 b,.string s,.slice A2 ns.length c2] 126) (x:=.tmp 77) (u:=.agg #[.int .i64 k,.int .i64 a,.int .i64 b,.string s,.slice A2 ns.length c2]) rfl (by rfl) (fun ρ hρ=>?_) ?_
        ·exact TC _ rfl ρ hρ _
        have hn:=hn.alloc (.cells #[.int .i64 k,.int .i64 a,.int .i64 b,.string s,.slice A2 ns.length c2] 126);have hs:=hs.alloc (.cells #[.int .i64 k,.int .i64 a,.int .i64 b,.string s,.slice A2 ns.length c2] 126);have hbg:=hbg.alloc (.cells #[.int .i64 k,.int .i64 a,.int .i64 b,.string s,.slice A2 ns.length c2] 126);have hz7:=hS.size;have hb7:=tZ hS #[.int .i64 k,.int .i64 a,.int .i64 b,.string s,.slice A2 ns.length c2] 126;have hS:=hS.alloc (.cells #[.int .i64 k,.int .i64 a,.int .i64 b,.string s,.slice A2 ns.length c2] 126);refine hK.out _ _ hS (fun _=>?_);clear hK K
        try simp only [Act.put,List.setIfInBounds_toArray,List.set_cons_zero,List.set_cons_succ]
        refine ah (rs:=[8,14]) (by kernel_rfl) (by simp) ?_;refine ae.cons (o:=?_) ?_ (fun K hK=>?_) ?_;rotate_left 1
        ·(first | (simp only [List.getElem?_toArray,List.getElem?_cons_succ,List.getElem?_cons_zero];exact rfl) | exact rfl)
        ·skip
         obtain ⟨iN,hiN,hN0,hN1,hN2⟩:=info_parts uQ;refine bY _ rfl (.tmp 76) (.tmp 78) _ (by rfl) B 126 iN Gb 5 64 Tryz.underlying104 hiN hN0 hN1 hN2 (by rfl) (by decide) (.slice An T.length cn) T.length rows.flatten (by rfl) hn _ _ 1 1 [.int .i64 k,.int .i64 a,.int .i64 b,.string s,.slice A2 ns.length c2] (by rfl) (eQ hb7 (by rfl)) Hone.out (by unfold maxLen;omega) (by omega) (by have:=hS.size;omega) ?_;intro nv' wn hown1 hgrow1 hat1;obtain ⟨A7,c7,rfl⟩:=gH hown1;have hs:=hs.kept hgrow1 (ql (own_ne hs hn (by decide)));have hbg:=hbg.grown hgrow1 (fun e=>ng (.inl e.symm));have hat1:=yc hat1 hS.size;have hS:=hS.grown hgrow1 (fun b e=>.inl (.inl e));refine hK.out _ _ hS (fun _=>?_);clear hK K hn hiN hN0 hN1 hN2 iN
         try simp only [Act.put,List.setIfInBounds_toArray,List.set_cons_zero,List.set_cons_succ]
         refine ah (rs:=[14]) (by kernel_rfl) (by simp) ?_;refine ae.cons (o:=?_) ?_ (fun K hK=>?_) ae.nil;rotate_left 1
         ·(first | (simp only [List.getElem?_toArray,List.getElem?_cons_succ,List.getElem?_cons_zero];exact rfl) | exact rfl)
         refine iD (.cells #[.int .i64 ((enc t).length:Nat)] 3) (x:=.tmp 84) (u:=.int .i64 ((enc t).length:Nat)) rfl (by rfl) (fun ρ hρ=>?_) ?_
         ·exact RG _ rfl ρ hρ _
         have hown1:=hown1.alloc (.cells #[.int .i64 ((enc t).length:Nat)] 3);have hs:=hs.alloc (.cells #[.int .i64 ((enc t).length:Nat)] 3);have hbg:=hbg.alloc (.cells #[.int .i64 ((enc t).length:Nat)] 3);have hz14:=hS.size;have hb14:=tZ hS #[.int .i64 ((enc t).length:Nat)] 3;have hS:=hS.alloc (.cells #[.int .i64 ((enc t).length:Nat)] 3);refine hK.out _ _ hS (fun _=>?_);clear hK K
         try simp only [Act.put,List.setIfInBounds_toArray,List.set_cons_zero,List.set_cons_succ]
         refine ah (rs:=[15]) (by kernel_rfl) (by simp) ?_;refine ae.cons (o:=?_) ?_ (fun K hK=>?_) ae.nil;rotate_left 1
         ·(first | (simp only [List.getElem?_toArray,List.getElem?_cons_succ,List.getElem?_cons_zero];exact rfl) | exact rfl)
         obtain ⟨iI,hiI,hI0,hI1,hI2⟩:=info_parts yt;refine bY _ rfl (.tmp 83) (.tmp 85) _ (by rfl) B 3 iI (.int .i64 0) 1 8 Tryz.underlying26 hiI hI0 hI1 hI2 (by rfl) (by decide) (.slice As T.length cs) T.length _ (by rfl) hs _ _ 1 1 [.int .i64 ((enc t).length:Nat)] (by rfl) (eQ hb14 (by rfl)) Hone1.out (by unfold maxLen;omega) (by omega) (by have:=hS.size;omega) ?_;intro sv' ws hown2 hgrow2 hat2;obtain ⟨A8,c8,rfl⟩:=gH hown2;have hown1:=hown1.kept hgrow2 (ql (own_ne hown1 hs (by decide)));have hbg:=hbg.grown hgrow2 (fun e=>ng (.inr e.symm));have hat2:=yc hat2 hS.size;have hS:=hS.grown hgrow2 (fun b e=>.inl (.inr e));refine hK.out _ _ hS (fun _=>?_);clear hK K hs hiI hI0 hI1 hI2 iI
         try simp only [Act.put,List.setIfInBounds_toArray,List.set_cons_zero,List.set_cons_succ]
         refine ah (rs:=[16]) (by kernel_rfl) (by simp) ?_;refine ae.late (o:=?_) ?_ rfl (fun K hK=>?_) ae.nil;rotate_left 1
         ·(first | (simp only [List.getElem?_toArray,List.getElem?_cons_succ,List.getElem?_cons_zero];exact rfl) | exact rfl)
         refine dn (x:=.tmp 71) (u:=.pointer (some ⟨g,0,none⟩)) (v:=.pointer (some ⟨g,0,none⟩)) rfl (by rfl) (fun ρ hρ=>?_) ?_
         ·exact Jo _ rfl ρ hρ _
         refine hK.out _ _ ?_;clear hK K
         try simp only [Act.put,List.setIfInBounds_toArray,List.set_cons_zero,List.set_cons_succ]
         refine ah (rs:=[17]) (by kernel_rfl) (by simp) ?_;refine ae.late (o:=?_) ?_ rfl (fun K hK=>?_) ae.nil;rotate_left 1
         ·(first | (simp only [List.getElem?_toArray,List.getElem?_cons_succ,List.getElem?_cons_zero];exact rfl) | exact rfl)
         refine dn (x:=.tmp 87) (u:=.pointer (some ⟨g,0,none⟩)) (v:=.pointer (some ⟨g,0,none⟩)) rfl (by rfl) (fun ρ hρ=>?_) ?_
         ·exact KE _ rfl ρ hρ _
         refine hK.out _ _ ?_;clear hK K
         try simp only [Act.put,List.setIfInBounds_toArray,List.set_cons_zero,List.set_cons_succ]
         refine ah (rs:=[18]) (by kernel_rfl) (by simp) ?_;refine ae.late (o:=?_) ?_ rfl (fun K hK=>?_) ae.nil;rotate_left 1
         ·(first | (simp only [List.getElem?_toArray,List.getElem?_cons_succ,List.getElem?_cons_zero];exact rfl) | exact rfl)
         have cc:=hbg.cell 0;have cf:=hbg.frozen 0;simp only [List.getElem?_toArray,List.getElem?_cons_zero,List.getElem?_cons_succ,Array.set!_eq_setIfInBounds,List.setIfInBounds_toArray,List.set_cons_zero,List.set_cons_succ] at cc;refine dY (p:=⟨g,0,none⟩) (x:=.tmp 88) (y:=.tmp 79) (u:=.pointer (some ⟨g,0,none⟩)) (v:=.slice A7 (T.length+1) c7) rfl (by rfl) (by rfl) (fun ρ hρ hρ2=>?_) ?_
         ·exact Na _ rfl ρ hρ hρ2 _ hbg
         refine hK.out _ _ ?_;clear hK K cc cf;have hown1:=eF hown1 hbg (by decide) 0 (.slice A7 (T.length+1) c7);have hown2:=eF hown2 hbg (by decide) 0 (.slice A7 (T.length+1) c7);have hS:=(hS.mono (R':=Rg g (.slice An T.length cn) (.slice As T.length cs)) (fun i hi=>.inr hi)).set_ (p:=⟨g,0,none⟩) (.inl (.inl rfl)) (.slice A7 (T.length+1) c7);have hbg:=hbg.set_ 0 (.slice A7 (T.length+1) c7)
         try simp only [Act.put,List.setIfInBounds_toArray,List.set_cons_zero,List.set_cons_succ]
         refine ah (rs:=[19]) (by kernel_rfl) (by simp) ?_;refine ae.late (o:=?_) ?_ rfl (fun K hK=>?_) ae.nil;rotate_left 1
         ·(first | (simp only [List.getElem?_toArray,List.getElem?_cons_succ,List.getElem?_cons_zero];exact rfl) | exact rfl)
         refine dn (x:=.tmp 72) (u:=.pointer (some ⟨g,0,none⟩)) (v:=.pointer (some ⟨g,0,none⟩)) rfl (by rfl) (fun ρ hρ=>?_) ?_
         ·exact Jo _ rfl ρ hρ _
         refine hK.out _ _ ?_;clear hK K
         try simp only [Act.put,List.setIfInBounds_toArray,List.set_cons_zero,List.set_cons_succ]
         refine ah (rs:=[20]) (by kernel_rfl) (by simp) ?_;refine ae.late (o:=?_) ?_ rfl (fun K hK=>?_) ae.nil;rotate_left 1
         ·(first | (simp only [List.getElem?_toArray,List.getElem?_cons_succ,List.getElem?_cons_zero];exact rfl) | exact rfl)
         refine dn (x:=.tmp 89) (u:=.pointer (some ⟨g,0,none⟩)) (v:=.pointer (some ⟨g,1,none⟩)) rfl (by rfl) (fun ρ hρ=>?_) ?_
         ·exact MO _ rfl ρ hρ _
         refine hK.out _ _ ?_;clear hK K
         try simp only [Act.put,List.setIfInBounds_toArray,List.set_cons_zero,List.set_cons_succ]
         refine ah (rs:=[21]) (by kernel_rfl) (by simp) ?_;refine ae.late (o:=?_) ?_ rfl (fun K hK=>?_) ae.nil;rotate_left 1
         ·(first | (simp only [List.getElem?_toArray,List.getElem?_cons_succ,List.getElem?_cons_zero];exact rfl) | exact rfl)
         have cc:=hbg.cell 1;have cf:=hbg.frozen 1;simp only [List.getElem?_toArray,List.getElem?_cons_zero,List.getElem?_cons_succ,Array.set!_eq_setIfInBounds,List.setIfInBounds_toArray,List.set_cons_zero,List.set_cons_succ] at cc;refine dY (p:=⟨g,1,none⟩) (x:=.tmp 90) (y:=.tmp 86) (u:=.pointer (some ⟨g,1,none⟩)) (v:=.slice A8 (T.length+1) c8) rfl (by rfl) (by rfl) (fun ρ hρ hρ2=>?_) ?_
         ·exact LM _ rfl ρ hρ hρ2 _ hbg
         refine hK.out _ _ ?_;clear hK K cc cf;have hown1:=eF hown1 hbg (by decide) 1 (.slice A8 (T.length+1) c8);have hown2:=eF hown2 hbg (by decide) 1 (.slice A8 (T.length+1) c8);have hS:=hS.set_ (p:=⟨g,1,none⟩) (.inl (.inl rfl)) (.slice A8 (T.length+1) c8);have hbg:=hbg.set_ 1 (.slice A8 (T.length+1) c8)
         try simp only [Act.put,List.setIfInBounds_toArray,List.set_cons_zero,List.set_cons_succ]
         refine dZ (by kernel_rfl) ?_ _;go_wp2_with fail;go_meet;exact Two.mk_ (by simpa using hbg) hown1 hown2 hS hat1 hat2
        refine ae.cons (o:=?_) ?_ (fun K hK=>?_) ae.nil;rotate_left 1
        ·(first | (simp only [List.getElem?_toArray,List.getElem?_cons_succ,List.getElem?_cons_zero];exact rfl) | exact rfl)
        refine iD (.cells #[.int .i64 ((enc t).length:Nat)] 3) (x:=.tmp 84) (u:=.int .i64 ((enc t).length:Nat)) rfl (by rfl) (fun ρ hρ=>?_) ?_
        ·exact RG _ rfl ρ hρ _
        have hn:=hn.alloc (.cells #[.int .i64 ((enc t).length:Nat)] 3);have hs:=hs.alloc (.cells #[.int .i64 ((enc t).length:Nat)] 3);have hbg:=hbg.alloc (.cells #[.int .i64 ((enc t).length:Nat)] 3);have hb7:=hb7.alloc (.cells #[.int .i64 ((enc t).length:Nat)] 3);have hz14:=hS.size;have hb14:=tZ hS #[.int .i64 ((enc t).length:Nat)] 3;have hS:=hS.alloc (.cells #[.int .i64 ((enc t).length:Nat)] 3);refine hK.out _ _ hS (fun _=>?_);clear hK K
        try simp only [Act.put,List.setIfInBounds_toArray,List.set_cons_zero,List.set_cons_succ]
        refine ah (rs:=[8]) (by kernel_rfl) (by simp) ?_;refine ae.cons (o:=?_) ?_ (fun K hK=>?_) ae.nil;rotate_left 1
        ·(first | (simp only [List.getElem?_toArray,List.getElem?_cons_succ,List.getElem?_cons_zero];exact rfl) | exact rfl)
        obtain ⟨iN,hiN,hN0,hN1,hN2⟩:=info_parts uQ;refine bY _ rfl (.tmp 76) (.tmp 78) _ (by rfl) B 126 iN Gb 5 64 Tryz.underlying104 hiN hN0 hN1 hN2 (by rfl) (by decide) (.slice An T.length cn) T.length rows.flatten (by rfl) hn _ _ 1 1 [.int .i64 k,.int .i64 a,.int .i64 b,.string s,.slice A2 ns.length c2] (by rfl) (eQ hb7 (by rfl)) Hone.out (by unfold maxLen;omega) (by omega) (by have:=hS.size;omega) ?_;intro nv' wn hown1 hgrow1 hat1;obtain ⟨A7,c7,rfl⟩:=gH hown1;have hs:=hs.kept hgrow1 (ql (own_ne hs hn (by decide)));have hbg:=hbg.grown hgrow1 (fun e=>ng (.inl e.symm));have hb14:=hb14.grown hgrow1 (fun e=>by have:=hnlt _ e.symm;omega);have hat1:=yc hat1 hS.size;have hS:=hS.grown hgrow1 (fun b e=>.inl (.inl e));refine hK.out _ _ hS (fun _=>?_);clear hK K hn hiN hN0 hN1 hN2 iN
        try simp only [Act.put,List.setIfInBounds_toArray,List.set_cons_zero,List.set_cons_succ]
        refine ah (rs:=[15]) (by kernel_rfl) (by simp) ?_;refine ae.cons (o:=?_) ?_ (fun K hK=>?_) ae.nil;rotate_left 1
        ·(first | (simp only [List.getElem?_toArray,List.getElem?_cons_succ,List.getElem?_cons_zero];exact rfl) | exact rfl)
        obtain ⟨iI,hiI,hI0,hI1,hI2⟩:=info_parts yt;refine bY _ rfl (.tmp 83) (.tmp 85) _ (by rfl) B 3 iI (.int .i64 0) 1 8 Tryz.underlying26 hiI hI0 hI1 hI2 (by rfl) (by decide) (.slice As T.length cs) T.length _ (by rfl) hs _ _ 1 1 [.int .i64 ((enc t).length:Nat)] (by rfl) (eQ hb14 (by rfl)) Hone1.out (by unfold maxLen;omega) (by omega) (by have:=hS.size;omega) ?_;intro sv' ws hown2 hgrow2 hat2;obtain ⟨A8,c8,rfl⟩:=gH hown2;have hown1:=hown1.kept hgrow2 (ql (own_ne hown1 hs (by decide)));have hbg:=hbg.grown hgrow2 (fun e=>ng (.inr e.symm));have hat2:=yc hat2 hS.size;have hS:=hS.grown hgrow2 (fun b e=>.inl (.inr e));refine hK.out _ _ hS (fun _=>?_);clear hK K hs hiI hI0 hI1 hI2 iI
        try simp only [Act.put,List.setIfInBounds_toArray,List.set_cons_zero,List.set_cons_succ]
        refine ah (rs:=[16]) (by kernel_rfl) (by simp) ?_;refine ae.late (o:=?_) ?_ rfl (fun K hK=>?_) ae.nil;rotate_left 1
        ·(first | (simp only [List.getElem?_toArray,List.getElem?_cons_succ,List.getElem?_cons_zero];exact rfl) | exact rfl)
        refine dn (x:=.tmp 71) (u:=.pointer (some ⟨g,0,none⟩)) (v:=.pointer (some ⟨g,0,none⟩)) rfl (by rfl) (fun ρ hρ=>?_) ?_
        ·exact Jo _ rfl ρ hρ _
        refine hK.out _ _ ?_;clear hK K
        try simp only [Act.put,List.setIfInBounds_toArray,List.set_cons_zero,List.set_cons_succ]
        refine ah (rs:=[17]) (by kernel_rfl) (by simp) ?_;refine ae.late (o:=?_) ?_ rfl (fun K hK=>?_) ae.nil;rotate_left 1
        ·(first | (simp only [List.getElem?_toArray,List.getElem?_cons_succ,List.getElem?_cons_zero];exact rfl) | exact rfl)
        refine dn (x:=.tmp 87) (u:=.pointer (some ⟨g,0,none⟩)) (v:=.pointer (some ⟨g,0,none⟩)) rfl (by rfl) (fun ρ hρ=>?_) ?_
        ·exact KE _ rfl ρ hρ _
        refine hK.out _ _ ?_;clear hK K
        try simp only [Act.put,List.setIfInBounds_toArray,List.set_cons_zero,List.set_cons_succ]
        refine ah (rs:=[18]) (by kernel_rfl) (by simp) ?_;refine ae.late (o:=?_) ?_ rfl (fun K hK=>?_) ae.nil;rotate_left 1
        ·(first | (simp only [List.getElem?_toArray,List.getElem?_cons_succ,List.getElem?_cons_zero];exact rfl) | exact rfl)
        have cc:=hbg.cell 0;have cf:=hbg.frozen 0;simp only [List.getElem?_toArray,List.getElem?_cons_zero,List.getElem?_cons_succ,Array.set!_eq_setIfInBounds,List.setIfInBounds_toArray,List.set_cons_zero,List.set_cons_succ] at cc;refine dY (p:=⟨g,0,none⟩) (x:=.tmp 88) (y:=.tmp 79) (u:=.pointer (some ⟨g,0,none⟩)) (v:=.slice A7 (T.length+1) c7) rfl (by rfl) (by rfl) (fun ρ hρ hρ2=>?_) ?_
        ·exact Na _ rfl ρ hρ hρ2 _ hbg
        refine hK.out _ _ ?_;clear hK K cc cf;have hown1:=eF hown1 hbg (by decide) 0 (.slice A7 (T.length+1) c7);have hown2:=eF hown2 hbg (by decide) 0 (.slice A7 (T.length+1) c7);have hS:=(hS.mono (R':=Rg g (.slice An T.length cn) (.slice As T.length cs)) (fun i hi=>.inr hi)).set_ (p:=⟨g,0,none⟩) (.inl (.inl rfl)) (.slice A7 (T.length+1) c7);have hbg:=hbg.set_ 0 (.slice A7 (T.length+1) c7)
        try simp only [Act.put,List.setIfInBounds_toArray,List.set_cons_zero,List.set_cons_succ]
        refine ah (rs:=[19]) (by kernel_rfl) (by simp) ?_;refine ae.late (o:=?_) ?_ rfl (fun K hK=>?_) ae.nil;rotate_left 1
        ·(first | (simp only [List.getElem?_toArray,List.getElem?_cons_succ,List.getElem?_cons_zero];exact rfl) | exact rfl)
        refine dn (x:=.tmp 72) (u:=.pointer (some ⟨g,0,none⟩)) (v:=.pointer (some ⟨g,0,none⟩)) rfl (by rfl) (fun ρ hρ=>?_) ?_
        ·exact Jo _ rfl ρ hρ _
        refine hK.out _ _ ?_;clear hK K
        try simp only [Act.put,List.setIfInBounds_toArray,List.set_cons_zero,List.set_cons_succ]
        refine ah (rs:=[20]) (by kernel_rfl) (by simp) ?_;refine ae.late (o:=?_) ?_ rfl (fun K hK=>?_) ae.nil;rotate_left 1
        ·(first | (simp only [List.getElem?_toArray,List.getElem?_cons_succ,List.getElem?_cons_zero];exact rfl) | exact rfl)
        refine dn (x:=.tmp 89) (u:=.pointer (some ⟨g,0,none⟩)) (v:=.pointer (some ⟨g,1,none⟩)) rfl (by rfl) (fun ρ hρ=>?_) ?_
        ·exact MO _ rfl ρ hρ _
        refine hK.out _ _ ?_;clear hK K
        try simp only [Act.put,List.setIfInBounds_toArray,List.set_cons_zero,List.set_cons_succ]
        refine ah (rs:=[21]) (by kernel_rfl) (by simp) ?_;refine ae.late (o:=?_) ?_ rfl (fun K hK=>?_) ae.nil;rotate_left 1
        ·(first | (simp only [List.getElem?_toArray,List.getElem?_cons_succ,List.getElem?_cons_zero];exact rfl) | exact rfl)
        have cc:=hbg.cell 1;have cf:=hbg.frozen 1;simp only [List.getElem?_toArray,List.getElem?_cons_zero,List.getElem?_cons_succ,Array.set!_eq_setIfInBounds,List.setIfInBounds_toArray,List.set_cons_zero,List.set_cons_succ] at cc;refine dY (p:=⟨g,1,none⟩) (x:=.tmp 90) (y:=.tmp 86) (u:=.pointer (some ⟨g,1,none⟩)) (v:=.slice A8 (T.length+1) c8) rfl (by rfl) (by rfl) (fun ρ hρ hρ2=>?_) ?_
        ·exact LM _ rfl ρ hρ hρ2 _ hbg
        refine hK.out _ _ ?_;clear hK K cc cf;have hown1:=eF hown1 hbg (by decide) 1 (.slice A8 (T.length+1) c8);have hown2:=eF hown2 hbg (by decide) 1 (.slice A8 (T.length+1) c8);have hS:=hS.set_ (p:=⟨g,1,none⟩) (.inl (.inl rfl)) (.slice A8 (T.length+1) c8);have hbg:=hbg.set_ 1 (.slice A8 (T.length+1) c8)
        try simp only [Act.put,List.setIfInBounds_toArray,List.set_cons_zero,List.set_cons_succ]
        refine dZ (by kernel_rfl) ?_ _;go_wp2_with fail;go_meet;exact Two.mk_ (by simpa using hbg) hown1 hown2 hS hat1 hat2
       refine ae.cons (o:=?_) ?_ (fun K hK=>?_) ae.nil;rotate_left 1
       ·(first | (simp only [List.getElem?_toArray,List.getElem?_cons_succ,List.getElem?_cons_zero];exact rfl) | exact rfl)
       refine iD (.cells #[.int .i64 ((enc t).length:Nat)] 3) (x:=.tmp 84) (u:=.int .i64 ((enc t).length:Nat)) rfl (by rfl) (fun ρ hρ=>?_) ?_
       ·exact RG _ rfl ρ hρ _
       have hn:=hn.alloc (.cells #[.int .i64 ((enc t).length:Nat)] 3);have hs:=hs.alloc (.cells #[.int .i64 ((enc t).length:Nat)] 3);have hbg:=hbg.alloc (.cells #[.int .i64 ((enc t).length:Nat)] 3);have hz14:=hS.size;have hb14:=tZ hS #[.int .i64 ((enc t).length:Nat)] 3;have hS:=hS.alloc (.cells #[.int .i64 ((enc t).length:Nat)] 3);refine hK.out _ _ hS (fun _=>?_);clear hK K
       try simp only [Act.put,List.setIfInBounds_toArray,List.set_cons_zero,List.set_cons_succ]
       refine ah (rs:=[7]) (by kernel_rfl) (by simp) ?_;refine ae.cons (o:=?_) ?_ (fun K hK=>?_) ae.nil;rotate_left 1
       ·(first | (simp only [List.getElem?_toArray,List.getElem?_cons_succ,List.getElem?_cons_zero];exact rfl) | exact rfl)
       refine iD (.cells #[.int .i64 k,.int .i64 a,.int .i64 b,.string s,.slice A2 ns.length c2] 126) (x:=.tmp 77) (u:=.agg #[.int .i64 k,.int .i64 a,.int .i64 b,.string s,.slice A2 ns.length c2]) rfl (by rfl) (fun ρ hρ=>?_) ?_
       ·exact TC _ rfl ρ hρ _
       have hn:=hn.alloc (.cells #[.int .i64 k,.int .i64 a,.int .i64 b,.string s,.slice A2 ns.length c2] 126);have hs:=hs.alloc (.cells #[.int .i64 k,.int .i64 a,.int .i64 b,.string s,.slice A2 ns.length c2] 126);have hbg:=hbg.alloc (.cells #[.int .i64 k,.int .i64 a,.int .i64 b,.string s,.slice A2 ns.length c2] 126);have hb14:=hb14.alloc (.cells #[.int .i64 k,.int .i64 a,.int .i64 b,.string s,.slice A2 ns.length c2] 126);have hz7:=hS.size;have hb7:=tZ hS #[.int .i64 k,.int .i64 a,.int .i64 b,.string s,.slice A2 ns.length c2] 126;have hS:=hS.alloc (.cells #[.int .i64 k,.int .i64 a,.int .i64 b,.string s,.slice A2 ns.length c2] 126);refine hK.out _ _ hS (fun _=>?_);clear hK K
       try simp only [Act.put,List.setIfInBounds_toArray,List.set_cons_zero,List.set_cons_succ]
       refine ah (rs:=[8]) (by kernel_rfl) (by simp) ?_;refine ae.cons (o:=?_) ?_ (fun K hK=>?_) ae.nil;rotate_left 1
       ·(first | (simp only [List.getElem?_toArray,List.getElem?_cons_succ,List.getElem?_cons_zero];exact rfl) | exact rfl)
       obtain ⟨iN,hiN,hN0,hN1,hN2⟩:=info_parts uQ;refine bY _ rfl (.tmp 76) (.tmp 78) _ (by rfl) B 126 iN Gb 5 64 Tryz.underlying104 hiN hN0 hN1 hN2 (by rfl) (by decide) (.slice An T.length cn) T.length rows.flatten (by rfl) hn _ _ 1 1 [.int .i64 k,.int .i64 a,.int .i64 b,.string s,.slice A2 ns.length c2] (by rfl) (eQ hb7 (by rfl)) Hone.out (by unfold maxLen;omega) (by omega) (by have:=hS.size;omega) ?_;intro nv' wn hown1 hgrow1 hat1;obtain ⟨A7,c7,rfl⟩:=gH hown1;have hs:=hs.kept hgrow1 (ql (own_ne hs hn (by decide)));have hbg:=hbg.grown hgrow1 (fun e=>ng (.inl e.symm));have hb14:=hb14.grown hgrow1 (fun e=>by have:=hnlt _ e.symm;omega);have hat1:=yc hat1 hS.size;have hS:=hS.grown hgrow1 (fun b e=>.inl (.inl e));refine hK.out _ _ hS (fun _=>?_);clear hK K hn hiN hN0 hN1 hN2 iN
       try simp only [Act.put,List.setIfInBounds_toArray,List.set_cons_zero,List.set_cons_succ]
       refine ah (rs:=[15]) (by kernel_rfl) (by simp) ?_;refine ae.cons (o:=?_) ?_ (fun K hK=>?_) ae.nil;rotate_left 1
       ·(first | (simp only [List.getElem?_toArray,List.getElem?_cons_succ,List.getElem?_cons_zero];exact rfl) | exact rfl)
       obtain ⟨iI,hiI,hI0,hI1,hI2⟩:=info_parts yt;refine bY _ rfl (.tmp 83) (.tmp 85) _ (by rfl) B 3 iI (.int .i64 0) 1 8 Tryz.underlying26 hiI hI0 hI1 hI2 (by rfl) (by decide) (.slice As T.length cs) T.length _ (by rfl) hs _ _ 1 1 [.int .i64 ((enc t).length:Nat)] (by rfl) (eQ hb14 (by rfl)) Hone1.out (by unfold maxLen;omega) (by omega) (by have:=hS.size;omega) ?_;intro sv' ws hown2 hgrow2 hat2;obtain ⟨A8,c8,rfl⟩:=gH hown2;have hown1:=hown1.kept hgrow2 (ql (own_ne hown1 hs (by decide)));have hbg:=hbg.grown hgrow2 (fun e=>ng (.inr e.symm));have hat2:=yc hat2 hS.size;have hS:=hS.grown hgrow2 (fun b e=>.inl (.inr e));refine hK.out _ _ hS (fun _=>?_);clear hK K hs hiI hI0 hI1 hI2 iI
       try simp only [Act.put,List.setIfInBounds_toArray,List.set_cons_zero,List.set_cons_succ]
       refine ah (rs:=[16]) (by kernel_rfl) (by simp) ?_;refine ae.late (o:=?_) ?_ rfl (fun K hK=>?_) ae.nil;rotate_left 1
       ·(first | (simp only [List.getElem?_toArray,List.getElem?_cons_succ,List.getElem?_cons_zero];exact rfl) | exact rfl)
       refine dn (x:=.tmp 71) (u:=.pointer (some ⟨g,0,none⟩)) (v:=.pointer (some ⟨g,0,none⟩)) rfl (by rfl) (fun ρ hρ=>?_) ?_
       ·exact Jo _ rfl ρ hρ _
       refine hK.out _ _ ?_;clear hK K
       try simp only [Act.put,List.setIfInBounds_toArray,List.set_cons_zero,List.set_cons_succ]
       refine ah (rs:=[17]) (by kernel_rfl) (by simp) ?_;refine ae.late (o:=?_) ?_ rfl (fun K hK=>?_) ae.nil;rotate_left 1
       ·(first | (simp only [List.getElem?_toArray,List.getElem?_cons_succ,List.getElem?_cons_zero];exact rfl) | exact rfl)
       refine dn (x:=.tmp 87) (u:=.pointer (some ⟨g,0,none⟩)) (v:=.pointer (some ⟨g,0,none⟩)) rfl (by rfl) (fun ρ hρ=>?_) ?_
       ·exact KE _ rfl ρ hρ _
       refine hK.out _ _ ?_;clear hK K
       try simp only [Act.put,List.setIfInBounds_toArray,List.set_cons_zero,List.set_cons_succ]
       refine ah (rs:=[18]) (by kernel_rfl) (by simp) ?_;refine ae.late (o:=?_) ?_ rfl (fun K hK=>?_) ae.nil;rotate_left 1
       ·(first | (simp only [List.getElem?_toArray,List.getElem?_cons_succ,List.getElem?_cons_zero];exact rfl) | exact rfl)
       have cc:=hbg.cell 0;have cf:=hbg.frozen 0;simp only [List.getElem?_toArray,List.getElem?_cons_zero,List.getElem?_cons_succ,Array.set!_eq_setIfInBounds,List.setIfInBounds_toArray,List.set_cons_zero,List.set_cons_succ] at cc;refine dY (p:=⟨g,0,none⟩) (x:=.tmp 88) (y:=.tmp 79) (u:=.pointer (some ⟨g,0,none⟩)) (v:=.slice A7 (T.length+1) c7) rfl (by rfl) (by rfl) (fun ρ hρ hρ2=>?_) ?_
       ·exact Na _ rfl ρ hρ hρ2 _ hbg
       refine hK.out _ _ ?_;clear hK K cc cf;have hown1:=eF hown1 hbg (by decide) 0 (.slice A7 (T.length+1) c7);have hown2:=eF hown2 hbg (by decide) 0 (.slice A7 (T.length+1) c7);have hS:=(hS.mono (R':=Rg g (.slice An T.length cn) (.slice As T.length cs)) (fun i hi=>.inr hi)).set_ (p:=⟨g,0,none⟩) (.inl (.inl rfl)) (.slice A7 (T.length+1) c7);have hbg:=hbg.set_ 0 (.slice A7 (T.length+1) c7)
       try simp only [Act.put,List.setIfInBounds_toArray,List.set_cons_zero,List.set_cons_succ]
       refine ah (rs:=[19]) (by kernel_rfl) (by simp) ?_;refine ae.late (o:=?_) ?_ rfl (fun K hK=>?_) ae.nil;rotate_left 1
       ·(first | (simp only [List.getElem?_toArray,List.getElem?_cons_succ,List.getElem?_cons_zero];exact rfl) | exact rfl)
       refine dn (x:=.tmp 72) (u:=.pointer (some ⟨g,0,none⟩)) (v:=.pointer (some ⟨g,0,none⟩)) rfl (by rfl) (fun ρ hρ=>?_) ?_
       ·exact Jo _ rfl ρ hρ _
       refine hK.out _ _ ?_;clear hK K
       try simp only [Act.put,List.setIfInBounds_toArray,List.set_cons_zero,List.set_cons_succ]
       refine ah (rs:=[20]) (by kernel_rfl) (by simp) ?_;refine ae.late (o:=?_) ?_ rfl (fun K hK=>?_) ae.nil;rotate_left 1
       ·(first | (simp only [List.getElem?_toArray,List.getElem?_cons_succ,List.getElem?_cons_zero];exact rfl) | exact rfl)
       refine dn (x:=.tmp 89) (u:=.pointer (some ⟨g,0,none⟩)) (v:=.pointer (some ⟨g,1,none⟩)) rfl (by rfl) (fun ρ hρ=>?_) ?_
       ·exact MO _ rfl ρ hρ _
       refine hK.out _ _ ?_;clear hK K
       try simp only [Act.put,List.setIfInBounds_toArray,List.set_cons_zero,List.set_cons_succ]
       refine ah (rs:=[21]) (by kernel_rfl) (by simp) ?_;refine ae.late (o:=?_) ?_ rfl (fun K hK=>?_) ae.nil;rotate_left 1
       ·(first | (simp only [List.getElem?_toArray,List.getElem?_cons_succ,List.getElem?_cons_zero];exact rfl) | exact rfl)
       have cc:=hbg.cell 1;have cf:=hbg.frozen 1;simp only [List.getElem?_toArray,List.getElem?_cons_zero,List.getElem?_cons_succ,Array.set!_eq_setIfInBounds,List.setIfInBounds_toArray,List.set_cons_zero,List.set_cons_succ] at cc;refine dY (p:=⟨g,1,none⟩) (x:=.tmp 90) (y:=.tmp 86) (u:=.pointer (some ⟨g,1,none⟩)) (v:=.slice A8 (T.length+1) c8) rfl (by rfl) (by rfl) (fun ρ hρ hρ2=>?_) ?_
       ·exact LM _ rfl ρ hρ hρ2 _ hbg
       refine hK.out _ _ ?_;clear hK K cc cf;have hown1:=eF hown1 hbg (by decide) 1 (.slice A8 (T.length+1) c8);have hown2:=eF hown2 hbg (by decide) 1 (.slice A8 (T.length+1) c8);have hS:=hS.set_ (p:=⟨g,1,none⟩) (.inl (.inl rfl)) (.slice A8 (T.length+1) c8);have hbg:=hbg.set_ 1 (.slice A8 (T.length+1) c8)
       try simp only [Act.put,List.setIfInBounds_toArray,List.set_cons_zero,List.set_cons_succ]
       refine dZ (by kernel_rfl) ?_ _;go_wp2_with fail;go_meet;exact Two.mk_ (by simpa using hbg) hown1 hown2 hS hat1 hat2
      case rest =>
       as_aux_lemma =>
       obtain ⟨A7,c7,A8,c8,rfl,hblk,hn,hs,hO,ha7,ha8⟩:=hcut
       obtain ⟨wy,rfl⟩:∃wy:World,wy=wc:=⟨wc,rfl⟩
       have nq':¬ Rg g (.slice An T.length cn) (.slice As T.length cs) q:=by
        rintro (h | h)
        ·exact Blk.ne_ HQ0.out HA0.out.blk (by decide) h
        ·have h2:=Har.out.sL _ (h.elim (HA0.out.sn _) (HA0.out.ss _))
         omega
       have nm:¬ Rg g (.slice An T.length cn) (.slice As T.length cs) mb:=by
        rintro (h | h | h)
        ·exact uq HA0.out.blk HA0.out.map h.symm
        ·exact iy HA0.out.nodes HA0.out.map h
        ·exact iy HA0.out.sizes HA0.out.map h
       have hQy:=hO.blk HQ0.out nq';have y2:wy.cell? ⟨g,2,none⟩=some (.map (some mb)):=hblk.cell 2;have e0:wy.cell? ⟨q,0,none⟩=some (.int .i64 k):=hQy.cell 0;have e1:wy.cell? ⟨q,1,none⟩=some (.int .i64 a):=hQy.cell 1;have e2:wy.cell? ⟨q,2,none⟩=some (.int .i64 b):=hQy.cell 2;have e3:wy.cell? ⟨q,3,none⟩=some (.string s):=hQy.cell 3;have e4:wy.cell? ⟨q,4,none⟩=some (.string (kU js)):=hQy.cell 4;have Hmy:=hide (hO.map_ HA0.out.map nm);have Hblk:=hide hblk;have Hn:=hide hn;have Hs:=hide hs;have HO:=hide hO;have Ha7:=hide ha7;have Ha8:=hide ha8;clear hblk hn hs hO ha7 ha8 hQy nq' nm;go_wp2_with fail
       go_still_tail 6,(by kernel_rfl)
       go_wp2_with (at_mapUpdate;refine wpList_mapUpdate_own _ rfl _ _ _ 103 rfl 184 39 uC Tryz.underlying103 _ mb T.length D rfl Hmy.out (by unfold maxLen;omega) _ _ kl rfl rfl Hkl.out (.lit (.int .i64 T.length)) [] (plainElem_int Tryz.underlying39 (by simp [Lit.wf,IntKind.min,IntKind.max,IntKind.signed,IntKind.bits];omega)) ?_;intro wz hmap hgz);go_ret;rw [Ho.out]
       have hgt:good t:=by
        rw [Ht.out];simp only [good]
        exact ⟨Hhd.out,Hki.out,(jf l).2 fun c hc=>by
         obtain ⟨j,hj⟩:=KL Hl.out c hc
         exact (Har.out.ok.fine c (List.mem_of_getElem? hj)).1⟩
       have hn7:wy.ownsRow B 126 5 (.slice A7 (T.length+1) c7) (T.length+1) (rows.flatten++[.int .i64 t.k,.int .i64 t.a,.int .i64 t.b,.string t.s,.slice A2 ns.length c2]):=by
        have h7:=Hn.out;rw [Ht.out];exact h7
       have ho7:W0.ownsRow w.heap.size 39 1 (.slice A2 ns.length c2) js.length ((js.map Int.ofNat).map (Value.int .i64)):=by
        rw [hjl];exact HO0.out
       have hgz7:wy.grownBy wz (some mb):=⟨hgz.os,hgz.tape,hgz.output,hgz.size,hgz.block⟩
       exact Jf HA0.out Har.out.sL hbW0 Hmem.out hgt Hmax.out Hjt.out HK.out HO.out hgz7 Hblk.out hn7 Hs.out hmap ho7 Ha7.out Ha8.out hB
   ·have Ho:=hide (show eP T k a b s ns=none by rw [hno,lim,if_neg hmax])
    have hmi:¬ ((enc t).length:Int)≤131072:=by omega
    clear hhd hki htd hl hsize hno hlen hoN;go_wp2;go_ret;rw [Ho.out];exact Done.none_ Har.out hbw
end
end Go.Proofs.YtnhekaepgpbijaaGreatDoor
