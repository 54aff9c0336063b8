/- Several of my texts in one: Put, ParseA. -/
import Derived.Test.YtnhekaepgpbijaaGreatDoorKAli
import Derived.Test.YtnhekaepgpbijaaGreatDoorKSortAG
import Derived.Test.YtnhekaepgpbijaaGreatDoorKChnG
import Derived.Test.YtnhekaepgpbijaaGreatDoorKAsG
import Derived.StillTailTactics
import Derived.Deep.RegionLaw
import Derived.Deep.RegionHeld3
import Derived.Deep.DeepCutAuto
import Derived.Deep.AppendLies
import Derived.Deep.CutBlock
set_option linter.unusedVariables false
set_option linter.unusedSimpArgs false
set_option maxHeartbeats 40000000
set_option maxRecDepth 100000
namespace Go.Proofs.YtnhekaepgpbijaaGreatDoor
open Go.Proofs.Tryz Go.RowKit Go.ChangeShapes Go.WideShapes Go.Sort
variable {W h w' w0 w1:World} {a b c c7 c8 i k m n o q size:Nat} {av sv v:Value} {e t:TypeId} {r:ByteArray} {R:Nat->Prop} {cs:Array Value} {A A7 A8:Option Addr} {D:DataW Unit} {x y:Operand} {p_:Prop} {ls:List (List UInt8)}
structure Grown (S:Nat->Prop) (w:World) (S':Nat->Prop) (w':World):Prop where
 os:w'.os=w.os
 tape:w'.tape=w.tape
 output:w'.output=w.output
 size:w.heap.size<=w'.heap.size
 block:∀i,i<w.heap.size->¬ S i->w'.heap[i]?=w.heap[i]?
 sub:∀i,S i->S' i
 new:∀i,S' i->S i\/w.heap.size<=i
theorem Grown.refl (S:Nat->Prop) (w:World):Grown S w S w:=⟨rfl,rfl,rfl,Y2 _,fun _ _ _=>rfl,fun _ h=>h,fun _ h=>.inl h⟩
theorem Grown.of_below {S:Nat->Prop} {w:World} (h:Below w.heap.size w w'):Grown S w S w':=⟨h.os,h.tape,h.output,h.size,fun i hi _=>h.block i hi,fun _ h=>h,fun _ h=>.inl h⟩
theorem Grown.trans {S q o:Nat->Prop} {w p:World} (h:Grown S w q w') (k:Grown q w' o p):Grown S w o p :=
 ⟨k.os.trans h.os,k.tape.trans h.tape,k.output.trans h.output,Yg h.size k.size,fun i hi r=>(k.block i (Yi hi h.size) (fun u=>by
  rcases h.new i u with j | j
  ·exact r j
  ·omega)).trans (h.block i hi r),fun i hi=>k.sub i (h.sub i hi),fun i hi=>by
  rcases k.new i hi with j | j
  ·exact h.new i j
  ·exact .inr (Yg h.size j)⟩
theorem Grown.below {S j:Nat->Prop} {w:World} {B:Nat} (h:Grown S w j w') (p:B<=w.heap.size) (q:∀i,S i->B<=i):Below B w w' :=
 ⟨h.os,h.tape,h.output,h.size,fun i hi=>h.block i (Yi hi p) (fun o=>by have:=q i o;omega)⟩
def Done (B:Nat) (w:World) (g:Nat) (T:List Tm) (S:Nat->Prop) (o:Option Tm) (e:Ending) (w':World):Prop :=
 ∃T' n S',e=.returned (.int .i64 n)/\Put T o T' n/\Ar B w' g T' S'/\Grown S w S' w'
theorem Done.none_ {B:Nat} {w:World} {g:Nat} {T:List Tm} {S:Nat->Prop} (h:Ar B w g T S) (j:Below w.heap.size w w'):Done B w g T S none (.returned (.int .i64 (-1))) w' :=
 ⟨T,-1,S,rfl,NV T,h.below j,Grown.of_below j⟩
theorem aA {p:Addr} (j:Below w0.heap.size w0 w1) (h:w0.cell? p=some v):w1.cell? p=some v:=(j.cell (World.block_lt_of_cell? w0 _ h)).trans h
theorem Vz {a b c d e:Value} (j:w1.cell? ⟨q,0,none⟩=some a) (o:w1.cell? ⟨q,1,none⟩=some b) (p:w1.cell? ⟨q,2,none⟩=some c) (r:w1.cell? ⟨q,3,none⟩=some d) (u:w1.cell? ⟨q,4,none⟩=some e) (h:Below w1.heap.size w1 W) :
  W.cell? ⟨q,0,none⟩=some a/\W.cell? ⟨q,1,none⟩=some b/\W.cell? ⟨q,2,none⟩=some c/\W.cell? ⟨q,3,none⟩=some d/\W.cell? ⟨q,4,none⟩=some e :=
 ⟨aA h j,aA h o,aA h p,aA h r,aA h u⟩
def Fx (k a b:Nat) (s r:ByteArray) (w1:World) (v:Value) (wx:World):Prop :=
 ∃q,v=.pointer (some ⟨q,0,none⟩)/\w1.heap.size<=q/\Blk wx q 184 #[.int .i64 k,.int .i64 a,.int .i64 b,.string s,.string r]/\Below w1.heap.size w1 wx
theorem Fx.new_ {s:ByteArray} {j:World} (h:Below w1.heap.size w1 j):Fx k a b s r w1 (.pointer (some ⟨j.heap.size,0,none⟩)) (j.alloc (.cells #[.int .i64 k,.int .i64 a,.int .i64 b,.string s,.string r] 184)) :=
 ⟨_,rfl,h.size,Blk.new _ _ _,h.alloc h.size _⟩
theorem Fx.old_ {s:ByteArray} {q w2:World} {c0 c1 c2 c3 c4:Value} (j:Below w1.heap.size w1 w2) (o:Blk w2 w1.heap.size 184 #[c0,c1,c2,c3,c4]) (h:Below w2.heap.size w2 q) :
  Fx k a b s r w1 (.pointer (some ⟨w1.heap.size,0,none⟩)) (((((q.setCell ⟨w1.heap.size,0,none⟩ (.int .i64 k)).setCell ⟨w1.heap.size,1,none⟩ (.int .i64 a)).setCell ⟨w1.heap.size,2,none⟩ (.int .i64 b)).setCell ⟨w1.heap.size,3,none⟩ (.string s)).setCell ⟨w1.heap.size,4,none⟩ (.string r)):=by
 have u:=j.trans (h.mono j.size);refine ⟨_,rfl,Y2 _,?_,Below.setCell (p:=⟨w1.heap.size,4,none⟩) (Below.setCell (p:=⟨w1.heap.size,3,none⟩) (Below.setCell (p:=⟨w1.heap.size,2,none⟩) (Below.setCell (p:=⟨w1.heap.size,1,none⟩) (Below.setCell (p:=⟨w1.heap.size,0,none⟩) u (Y2 _) _) (Y2 _) _) (Y2 _) _) (Y2 _) _) (Y2 _) _⟩;have v:=(((((o.below h o.lt).set_ 0 (.int .i64 k)).set_ 1 (.int .i64 a)).set_ 2 (.int .i64 b)).set_ 3 (.string s)).set_ 4 (.string r);simpa using v
def Rs (nv sv:Value) (i:Nat):Prop:=nv.ownBlock=some i\/sv.ownBlock=some i
def Rg (g:Nat) (nv sv:Value) (i:Nat):Prop:=i=g\/Rs nv sv i
theorem eD {us:List Value} (h:Blk W b t us.toArray) (o:us.length=m*size):Reads W W.heap.size size (some ⟨b,0,none⟩) m us :=
 ⟨o,fun _=>⟨_,rfl,h.lt,fun j u hu=>XC⟩⟩
theorem sS (_:dD R h W) (cs:Array Value) (t:TypeId):Blk (W.alloc (.cells cs t)) W.heap.size t cs:=Blk.new _ _ _
theorem nZ {row:Option Nat} (h:∀i,v.ownBlock=some i->row≠some i):v.ownBlock=none\/v.ownBlock≠row:=by
 cases e:v.ownBlock with
 | none=>exact .inl rfl
 | some i=>exact .inr fun j=>h i e j.symm
theorem xR {v':Value} (h:v'.ownBlock=v.ownBlock\/v'.ownBlock=some n) (j:m<=n):∀i,v'.ownBlock=some i->v.ownBlock=some i\/m<=i:=by
 intro i hi;rcases h with h | h
 ·exact .inl (h.symm.trans hi)
 ·rw [h] at hi
  cases hi
  exact .inr j
theorem dm {B g:Nat} {o:List Value} (h:W.ownsRow B e size v n o) (p:Blk W g t cs) (j:e≠t) (c:Nat) (u:Value):(W.setCell ⟨g,c,none⟩ u).ownsRow B e size v n o :=
 h.kept (ah (az W (some g)) (.inl rfl) u) (.inr (bf h p j))
def Two (B g mb n:Nat) (xs ys:List Value) (nv sv:Value) (W0:World) (s:Value) (W:World):Prop :=
 ∃A7 c7 A8 c8,s=.slice A7 n c7/\Blk W g 106 #[.slice A7 n c7,.slice A8 n c8,.map (some mb)]/\W.ownsRow B 126 5 (.slice A7 n c7) n xs/\W.ownsRow B 3 1 (.slice A8 n c8) n ys/\dD (Rg g nv sv) W0 W /\
  (∀i,(Value.slice A7 n c7).ownBlock=some i->nv.ownBlock=some i\/W0.heap.size<=i)/\(∀i,(Value.slice A8 n c8).ownBlock=some i->sv.ownBlock=some i\/W0.heap.size<=i)
theorem Two.mk_ {B g:Nat} {p q:List Value} {j:Value} (r:Blk W g 106 #[.slice A7 n c7,.slice A8 n c8,.map (some o)]) (u:W.ownsRow B 126 5 (.slice A7 n c7) n p) (v:W.ownsRow B 3 1 (.slice A8 n c8) n q) (z:dD (Rg g j sv) h W)
  (A:∀i,(Value.slice A7 n c7).ownBlock=some i->j.ownBlock=some i\/h.heap.size<=i) (C:∀i,(Value.slice A8 n c8).ownBlock=some i->sv.ownBlock=some i\/h.heap.size<=i):Two B g o n p q j sv h (.slice A7 n c7) W :=
 ⟨_,_,_,_,rfl,r,u,v,z,A,C⟩
theorem dD.map_ {w:World} (h:dD R w w') (A:w.ownsMap prog 184 (plainElem prog 39) o n D) (C:¬ R o):w'.ownsMap prog 184 (plainElem prog 39) o n D:=by
 obtain ⟨u,j,p,F,v,z⟩:=A;refine ⟨u,j,(h.block o ?_ C).trans p,F,v,z⟩;rcases Nat.lt_or_ge o w.heap.size with r | q
 ·exact r
 ·rw [Array.getElem?_eq_none q] at p;cases p
theorem KJ {B g z:Nat} {w G K F:World} {T:List Tm} {S:Nat->Prop} {J:Value} {C:List (List Value)} {t:Tm} {js:List Nat} {kl:Lit} 
  (p:ArX B G g T S J sv z C D) (V:∀i,S i->i<w.heap.size) (r:Below w.heap.size w G) (hm:t ∉ T) (hg:good t) (hz:(enc t).length<=131072) (hj:eF T t.l js) (hk:nX t js kl)
  (hO:dD (Rg g J sv) G K) (I:K.grownBy F (some z))
  (N:Blk K g 106 #[.slice A7 (T.length+1) c7,.slice A8 (T.length+1) c8,.map (some z)])
  (hn:K.ownsRow B 126 5 (.slice A7 (T.length+1) c7) (T.length+1) (C.flatten++[.int .i64 t.k,.int .i64 t.a,.int .i64 t.b,.string t.s,av]))
  (hs:K.ownsRow B 3 1 (.slice A8 (T.length+1) c8) (T.length+1) ((T.map fun t=>.int .i64 ((enc t).length:Nat))++[.int .i64 ((enc t).length:Nat)]))
  (P:F.ownsMap prog 184 (plainElem prog 39) z (T.length+1) (D.put kl (.lit (.int .i64 T.length))))
  (ha:G.ownsRow w.heap.size 39 1 av js.length ((js.map Int.ofNat).map (Value.int .i64)))
  (zn:∀i,(Value.slice A7 (T.length+1) c7).ownBlock=some i->J.ownBlock=some i\/G.heap.size<=i) (zs:∀i,(Value.slice A8 (T.length+1) c8).ownBlock=some i->sv.ownBlock=some i\/G.heap.size<=i) (hB:B<=w.heap.size) :
  Done B w g T S (some t) (.returned (.int .i64 T.length)) F:=by
 have ad:AOK (T++[t]):=Rv p.ok (o:=some t) (n:=T.length) (fun u hu=>by cases hu;exact ⟨hg,hz⟩) (fun u hu c hc=>by
  cases hu
  have A:some c∈js.map (fun j=>T[j]?):=by
   rw [hj];exact List.mem_map.2 ⟨c,hc,rfl⟩
  obtain ⟨j,_,U⟩:=List.mem_map.1 A
  exact ⟨j,U⟩) (Iq hm)
 have L:∀i,Rw g z J sv i->S i:=by
  rintro i (rfl | rfl | h | h)
  ·exact p.sg
  ·exact p.sm
  ·exact p.sn i h
  ·exact p.ss i h
 have q:dD (Rw g z J sv) G F:=(hO.mono (R':=Rw g z J sv) (by
  rintro i (rfl | h | h)
  ·exact .inl rfl
  ·exact .inr (.inr (.inl h))
  ·exact .inr (.inr (.inr h)))).grown I (fun b e=>by cases e;exact .inl (.inr (.inl rfl)))
 have O:g≠z:=wQ p.blk p.map;have X:=r.size;have Q:∀i,av.ownBlock=some i->w.heap.size<=i:=fun i hi=>(ha.lt i hi).1
 have Y:F.ownsRow w.heap.size 39 1 av js.length ((js.map Int.ofNat).map (Value.int .i64)):=q.own ha fun i hi h=>by
  have:=V i (L i h);have:=Q i hi;omega
 have ab:F.ownsMap prog 184 (plainElem prog 39) z (T.length+1) (D.put kl (.lit (.int .i64 T.length))):=P
 have kn:∀{e:TypeId} {size n:Nat} {v:Value} {xs:List Value},K.ownsRow B e size v n xs->F.ownsRow B e size v n xs:=fun {e size n v xs} h=>by
  refine h.kept I ?_
  cases ev:v.ownBlock with
  | none=>exact .inl rfl
  | some i =>
   right;intro e2;cases e2
   obtain ⟨es,R,hb,_⟩:=p.map
   have aa:¬ Rg g J sv z:=by
    rintro (A | A | A)
    ·exact O A.symm
    ·exact jq p.nodes p.map A
    ·exact jq p.sizes p.map A
   exact jq h (hO.map_ p.map aa) ev
 have af:∀i,av.ownBlock=some i->B<=i:=fun i hi=>Yg hB (Q i hi)
 have Z:F.ownsRow B 39 1 av js.length ((js.map Int.ofNat).map (Value.int .i64)):=iZ Y hB
 obtain ⟨S',A,U,h3⟩:=p.push2 ad q (N.grown I (fun e=>O (by cases e;rfl))) (kn hn) (kn hs) ab (Idx.put p.ok p.idx hm hj hk) hj Z
  (fun i hi=>(zn i hi).elim (fun h=>.inl (p.sn i h)) .inr) (fun i hi=>(zs i hi).elim (fun h=>.inl (p.ss i h)) .inr) (m:=w.heap.size) X Q
 refine ⟨T++[t],T.length,S',rfl,Iq hm,A,?_⟩;refine ⟨q.os.trans r.os,q.tape.trans r.tape,q.output.trans r.output,Yg X q.size,fun i hi ac=>(q.block i (Yi hi X) (fun h=>ac (L i h))).trans (r.block i hi),U,h3⟩
theorem VL {k a b:Int} {s:ByteArray} (o:Oper) (h:o.op=.buildSlice 104 1 #[(0,x)]) (j:Operand->Value) (q:j x=.agg #[.int .i64 k,.int .i64 a,.int .i64 b,.string s,.slice A n c]) (w:World) :
  (execOp j o).run prog w=.ok (.value (.slice (some ⟨w.heap.size,0,none⟩) 1 1)) (w.alloc (.cells #[.int .i64 k,.int .i64 a,.int .i64 b,.string s,.slice A n c] 126)):=by
 obtain ⟨d,v,t,p,r,u⟩:=o;simp only at h;subst h;go_simp
theorem Uw {k:Int} (o:Oper) (h:o.op=.buildSlice 26 1 #[(0,x)]) (j:Operand->Value) (q:j x=.int .i64 k) (w:World) :
  (execOp j o).run prog w=.ok (.value (.slice (some ⟨w.heap.size,0,none⟩) 1 1)) (w.alloc (.cells #[.int .i64 k] 3)):=by
 obtain ⟨d,v,t,p,r,u⟩:=o;simp only at h;subst h;go_simp
theorem zz810 (h_:p_:=by
 obtain ⟨d,op,t,p,af,gd⟩:=o;simp only at ho;subst ho
 go_simp):p_:=h_
theorem KV {q:Addr} (o:Oper) (ho:o.op=.nilCheck x) (h:Operand->Value) (j:h x=.pointer (some q)) (w:World):(execOp h o).run prog w=.ok (.value (.pointer (some q))) w:=by
 exact zz810
theorem MC {g:Nat} (o:Oper) (ho:o.op=.fieldAddr 106 x 0) (h:Operand->Value) (j:h x=.pointer (some ⟨g,0,none⟩)) (w:World):(execOp h o).run prog w=.ok (.value (.pointer (some ⟨g,0,none⟩))) w:=by
 exact zz810
theorem OT {g:Nat} (o:Oper) (q:o.op=.store 104 x y) (h:Operand->Value) (v:h x=.pointer (some ⟨g,0,none⟩)) (r:h y=.slice A n c) (w:World) (j:Blk w g 106 cs) (u:0<cs.size:=by simp):(execOp h o).run prog w=.ok .skip (w.setCell ⟨g,0,none⟩ (.slice A n c)):=by
 obtain ⟨d,G,t,p,z,F⟩:=o;simp only at q;subst q;have C:w.cell? ⟨g,0,none⟩=some cs[0]:=(j.cell 0).trans (Array.getElem?_eq_getElem u);have D:=j.frozen 0;go_simp
theorem Ov {g:Nat} (o:Oper) (ho:o.op=.fieldAddr 106 x 1) (h:Operand->Value) (j:h x=.pointer (some ⟨g,0,none⟩)) (w:World):(execOp h o).run prog w=.ok (.value (.pointer (some ⟨g,1,none⟩))) w:=by
 exact zz810
theorem NA {g:Nat} (o:Oper) (q:o.op=.store 26 x y) (h:Operand->Value) (v:h x=.pointer (some ⟨g,1,none⟩)) (r:h y=.slice A n c) (w:World) (j:Blk w g 106 cs) (u:1<cs.size:=by simp):(execOp h o).run prog w=.ok .skip (w.setCell ⟨g,1,none⟩ (.slice A n c)):=by
 obtain ⟨d,G,t,p,z,F⟩:=o;simp only at q;subst q;have C:w.cell? ⟨g,1,none⟩=some cs[1]:=(j.cell 1).trans (Array.getElem?_eq_getElem u);have D:=j.frozen 1;go_simp
def Iz:Value:=.agg #[.int .i64 0,.int .i64 0,.int .i64 0,.string ⟨#[]⟩,.slice none 0 0]
theorem xH:(prog.info? 126).map (fun i=>(i.zero,i.size,i.bytes))=some (some Iz,5,64):=Z1
theorem zT:(prog.info? 3).map (fun i=>(i.zero,i.size,i.bytes))=some (some (.int .i64 0),1,8):=Z1
section
variable {B g : Nat} {w : World} {T : List Tm} {S : Nat -> Prop}
theorem Ar.size_at (h:Ar B w g T S) {t:Tm} (hi:T[i]?=some t):∃sb cap,w.cell? ⟨g,1,none⟩=some (.slice (some ⟨sb,0,none⟩) T.length cap)/\w.cell? ⟨sb,i,none⟩=some (.int .i64 ((enc t).length:Nat)):=by
 obtain ⟨q,sv,p,j,D,h⟩:=h;obtain ⟨sb,cap,rfl,_,o⟩:=h.size_at hi;exact ⟨sb,cap,h.blk.cell 1,o⟩
theorem zz967 (h_:p_:=by
 try simp only [Act.put,J0,JT,Y0]
 refine au (rs:=[15]) (by kernel_rfl) (by simp) ?_;refine ai.cons (o:=?_) ?_ (fun K hK=>?_) ai.nil;rotate_left 1
 ·(first | (simp only [Jx,Q2,Q1];exact rfl) | exact rfl)
 obtain ⟨iI,hiI,hI0,hI1,hI2⟩:=info_parts zT;refine bU _ rfl (.tmp 83) (.tmp 85) _ (by rfl) B 3 iI (.int .i64 0) 1 8 underlying26 hiI hI0 hI1 hI2 (by rfl) (by decide) (.slice As T.length cs) T.length _ (by rfl) hs _ _ 1 1 [.int .i64 ((enc t).length:Nat)] (by rfl) (eD hb14 (by rfl)) Hone1.out (by unfold maxLen;omega) (by omega) (by have:=hS.size;omega) ?_;intro sv' ws hown2 hgrow2 hat2;obtain ⟨A8,c8,rfl⟩:=iH hown2;have hown1:=hown1.kept hgrow2 (nZ (own_ne hown1 hs (by decide)));have hbg:=hbg.grown hgrow2 (fun e=>ng (.inr e.symm));have hat2:=xR hat2 hS.size;have hS:=hS.grown hgrow2 (fun b e=>.inl (.inr e));refine hK.out _ _ hS (fun _=>?_);clear hK K hs hiI hI0 hI1 hI2 iI
 try simp only [Act.put,J0,JT,Y0]
 refine au (rs:=[16]) (by kernel_rfl) (by simp) ?_;refine ai.late (o:=?_) ?_ rfl (fun K hK=>?_) ai.nil;rotate_left 1
 ·(first | (simp only [Jx,Q2,Q1];exact rfl) | exact rfl)
 refine dw (x:=.tmp 71) (u:=.pointer (some ⟨g,0,none⟩)) (v:=.pointer (some ⟨g,0,none⟩)) rfl (by rfl) (fun ρ hρ=>?_) ?_
 ·exact KV _ rfl ρ hρ _
 refine hK.out _ _ ?_;clear hK K
 try simp only [Act.put,J0,JT,Y0]
 refine au (rs:=[17]) (by kernel_rfl) (by simp) ?_;refine ai.late (o:=?_) ?_ rfl (fun K hK=>?_) ai.nil;rotate_left 1
 ·(first | (simp only [Jx,Q2,Q1];exact rfl) | exact rfl)
 refine dw (x:=.tmp 87) (u:=.pointer (some ⟨g,0,none⟩)) (v:=.pointer (some ⟨g,0,none⟩)) rfl (by rfl) (fun ρ hρ=>?_) ?_
 ·exact MC _ rfl ρ hρ _
 refine hK.out _ _ ?_;clear hK K
 try simp only [Act.put,J0,JT,Y0]
 refine au (rs:=[18]) (by kernel_rfl) (by simp) ?_;refine ai.late (o:=?_) ?_ rfl (fun K hK=>?_) ai.nil;rotate_left 1
 ·(first | (simp only [Jx,Q2,Q1];exact rfl) | exact rfl)
 have cc:=hbg.cell 0;have cf:=hbg.frozen 0;simp only [Jx,Q1,Q2,Array.set!_eq_setIfInBounds,J0,JT,Y0] at cc;refine eO (p:=⟨g,0,none⟩) (x:=.tmp 88) (y:=.tmp 79) (u:=.pointer (some ⟨g,0,none⟩)) (v:=.slice A7 (T.length+1) c7) rfl (by rfl) (by rfl) (fun ρ hρ hρ2=>?_) ?_
 ·exact OT _ rfl ρ hρ hρ2 _ hbg
 refine hK.out _ _ ?_;clear hK K cc cf;have hown1:=dm hown1 hbg (by decide) 0 (.slice A7 (T.length+1) c7);have hown2:=dm hown2 hbg (by decide) 0 (.slice A7 (T.length+1) c7);have hS:=(hS.mono (R':=Rg g (.slice An T.length cn) (.slice As T.length cs)) (fun i hi=>.inr hi)).set_ (p:=⟨g,0,none⟩) (.inl (.inl rfl)) (.slice A7 (T.length+1) c7);have hbg:=hbg.set_ 0 (.slice A7 (T.length+1) c7)
 try simp only [Act.put,J0,JT,Y0]
 refine au (rs:=[19]) (by kernel_rfl) (by simp) ?_;refine ai.late (o:=?_) ?_ rfl (fun K hK=>?_) ai.nil;rotate_left 1
 ·(first | (simp only [Jx,Q2,Q1];exact rfl) | exact rfl)
 refine dw (x:=.tmp 72) (u:=.pointer (some ⟨g,0,none⟩)) (v:=.pointer (some ⟨g,0,none⟩)) rfl (by rfl) (fun ρ hρ=>?_) ?_
 ·exact KV _ rfl ρ hρ _
 refine hK.out _ _ ?_;clear hK K
 try simp only [Act.put,J0,JT,Y0]
 refine au (rs:=[20]) (by kernel_rfl) (by simp) ?_;refine ai.late (o:=?_) ?_ rfl (fun K hK=>?_) ai.nil;rotate_left 1
 ·(first | (simp only [Jx,Q2,Q1];exact rfl) | exact rfl)
 refine dw (x:=.tmp 89) (u:=.pointer (some ⟨g,0,none⟩)) (v:=.pointer (some ⟨g,1,none⟩)) rfl (by rfl) (fun ρ hρ=>?_) ?_
 ·exact Ov _ rfl ρ hρ _
 refine hK.out _ _ ?_;clear hK K
 try simp only [Act.put,J0,JT,Y0]
 refine au (rs:=[21]) (by kernel_rfl) (by simp) ?_;refine ai.late (o:=?_) ?_ rfl (fun K hK=>?_) ai.nil;rotate_left 1
 ·(first | (simp only [Jx,Q2,Q1];exact rfl) | exact rfl)
 have cc:=hbg.cell 1;have cf:=hbg.frozen 1;simp only [Jx,Q1,Q2,Array.set!_eq_setIfInBounds,J0,JT,Y0] at cc;refine eO (p:=⟨g,1,none⟩) (x:=.tmp 90) (y:=.tmp 86) (u:=.pointer (some ⟨g,1,none⟩)) (v:=.slice A8 (T.length+1) c8) rfl (by rfl) (by rfl) (fun ρ hρ hρ2=>?_) ?_
 ·exact NA _ rfl ρ hρ hρ2 _ hbg
 refine hK.out _ _ ?_;clear hK K cc cf;have hown1:=dm hown1 hbg (by decide) 1 (.slice A8 (T.length+1) c8);have hown2:=dm hown2 hbg (by decide) 1 (.slice A8 (T.length+1) c8);have hS:=hS.set_ (p:=⟨g,1,none⟩) (.inl (.inl rfl)) (.slice A8 (T.length+1) c8);have hbg:=hbg.set_ 1 (.slice A8 (T.length+1) c8)
 try simp only [Act.put,J0,JT,Y0]
 refine cB (by kernel_rfl) ?_ _;go_wp2_with fail;go_meet
 exact Two.mk_ (by simpa using hbg) hown1 hown2 hS hat1 hat2):p_:=h_
theorem RY (h:Ar B w g T S) (ht:Tab w) (hB:B<=w.heap.size) (hT:T.length<=1000000000) {s:ByteArray} {ns:List Int} (hI:Ids w av ns) (ha:a<4294967296) (hb:b<4294967296) (hs:s.size<=1000000) (I:ns.length<=40)
  (hh:∀l,jL T ns=some l->hd k a b s l.length/\kids k l) :
  Calls prog 52 #[.pointer (some ⟨g,0,none⟩),.agg #[.int .i64 k,.int .i64 a,.int .i64 b,.string s,av]] w (Done B w g T S (fQ T k a b s ns)):=by
 obtain ⟨A,c,rfl,hr⟩:=hI;have Hh:=hide hh;clear hh;have L:=hide h;have HT:=hide ht;clear ht;have dd:=h.lt;clear h
 have cM:DL k s<=1000009:=by
  unfold DL
  repeat' (first | omega | split)
 go_enter func52,ntmps52;go_wp2_with (go_at_call 98;refine (Q5 _ Z0).mono ?_;rintro e w1 ⟨rfl,a4⟩;obtain ⟨db,dc⟩:=zy a4;have cP:w.heap.size<w1.heap.size:=(by have:=a4.size;simp at this;omega));have ao:Below w.heap.size w w1:=((Below.refl _ _).alloc (Y2 _) _).trans (a4.mono Z3);have Y:Blk w1 w.heap.size 126 #[.int .i64 k,.int .i64 a,.int .i64 b,.string s,.slice A ns.length c]:=(Blk.new w _ _).below a4 Z3;have h1:=L.out.below ao;have ci:Sl 0 w1 1 A ns.length (ns.map (Value.int .i64)):=hr.below ao;have cN:=HT.out.below ao;clear db dc a4
 go_loop [19,7,5] (fun i _ z=>∃(j:Nat) (l:List Tm),j<=ns.length/\i=.int .i64 j/\jL T (ns.take j)=some l/\z=.int .i64 ((DL k s+(encs l).length:Nat):Int)/\(encs l).length<=j*131072) (fun i _ _=>ns.length - (intOf i).toNat)
 case atStart=>exact ⟨0,[],Yb _,rfl,rfl,rfl,Y2 _⟩
 case round =>
  obtain ⟨j,l,hj,rfl,hl,rfl,ap⟩:=hrel
  by_cases a0:j<ns.length
  ·have cF:(j:Int)<ns.length:=by omega
   obtain ⟨ad,u,rfl,_,dy,hu,cy⟩:=ci.at_ a0;simp only [Yt,Y1 a0,Option.map_some,Option.some.injEq] at hu;subst hu;have Hl:=hide hl;clear hl
   cases e:arg T ns[j] with
   | none =>
    have hH:=hide (nQ h1 ns[j]);rw [e] at hH;have Ho:=hide (show fQ T k a b s ns=none by unfold fQ;rw [Kh (Yf a0) e]);clear e;generalize ns[j]=n at cy hH;go_wp2_with (go_at_call 97;refine hH.out.mono ?_;rintro e w2 ⟨rfl,rfl⟩);go_ret;rw [Ho.out];exact Done.none_ L.out ao
   | some t =>
    obtain ⟨i,ch,hi⟩:=kM e;have hH:=hide (nQ h1 ns[j]);rw [e,ch] at hH;obtain ⟨sb,cap,d1,d2⟩:=h1.size_at hi;have d3:=(Yx.1 hi).1;have dT:(i:Int)<T.length:=Z0;have dq:=(L.out.ok.fine t (Yo hi)).2;have cj:=LC Hl.out e;rw [<-Yh a0] at cj;have cX:=hide cj;have cA:=yn l t;have be:=hide cA;rw [ch] at cy;clear e ch hi cj cA;generalize (enc t).length=et at d2 dq be;generalize (encs l).length=el at ap be;have da:j<=40:=Z0;have du:el<=40*131072:=Yg ap (Nat.mul_le_mul_right _ da);go_wp2_with (go_at_call 97;refine hH.out.mono ?_;rintro e w2 ⟨rfl,rfl⟩);go_round
    case rel=>exact ⟨j+1,l++[t],a0,Zr,cX.out,by rw [be.out];go_num,by rw [be.out];omega⟩
    case measure=>simp [intOf];omega
  ·have cF:¬ (j:Int)<ns.length:=by omega
   obtain rfl:j=ns.length:=Z0;rw [List.take_length] at hl;obtain ⟨bl,cd⟩:=Hh.out l hl
   obtain ⟨t,bb⟩:∃t,t=Tm.mk k a b s l:=⟨_,rfl⟩
   have P:(enc t).length=DL k s+(encs l).length:=by
    rw [bb];simp only [enc,Ya];rw [OG bl]
   have bm:fQ T k a b s ns=lim t:=by
    unfold fQ;rw [hl,bb]
   have Ht:=hide bb;have b6:=hide bl;have co:=hide cd;have Hl:=hide hl;rw [<-P];have cY:=hide P
   by_cases aq:(enc t).length<=131072
   ·have Ho:=hide (show fQ T k a b s ns=some t by rw [bm,lim,Y6 aq])
    have cL:((enc t).length:Int)<=131072:=Z0;clear bl cd bb hl P bm ap cM;have bo:=hide aq;clear aq;obtain ⟨js,bn,an⟩:=rX Hl.out;have cb:js.length=ns.length:=by rw [bn];simp
    have cE:∀j∈js,j<=9223372036854775807:=by
     intro j hj
     have h2:T[j]?∈l.map some:=by
      rw [<-an];exact List.mem_map.2 ⟨j,hj,rfl⟩
     obtain ⟨u,_,hu⟩:=List.mem_map.1 h2;have:=(Yx.1 hu.symm).1;omega
    have a8:Ids w1 (.slice A ns.length c) (js.map Int.ofNat):=by
     rw [<-bn];exact ⟨A,c,rfl,ci⟩
    have HJ:=hide (fun w2 (hb2:Below w1.heap.size w1 w2)=>Mr (w:=w2) (a8.below hb2) (cN.below hb2) Z0 cE);have HI:=hide a8;have ab:=hide an;have cW:=hide bn;have b0:w1.cell? ⟨w.heap.size,0,none⟩=some (.int .i64 k):=Y.cell 0;have b1:w1.cell? ⟨w.heap.size,1,none⟩=some (.int .i64 a):=Y.cell 1;have b2:w1.cell? ⟨w.heap.size,2,none⟩=some (.int .i64 b):=Y.cell 2;have b3:w1.cell? ⟨w.heap.size,3,none⟩=some (.string s):=Y.cell 3;have b4:w1.cell? ⟨w.heap.size,4,none⟩=some (.slice A ns.length c):=Y.cell 4;clear a8 an bn cE ci hr;go_upto_region 13 with fail;go_cut [8] (fun s8 J=>Fx k a b s (nH js) w1 s8 J)
    case first =>
     go_region_held3 (fun w'=>w'.cell? ⟨w.heap.size,0,none⟩=some (.int .i64 k)/\w'.cell? ⟨w.heap.size,1,none⟩=some (.int .i64 a)/\w'.cell? ⟨w.heap.size,2,none⟩=some (.int .i64 b)/\w'.cell? ⟨w.heap.size,3,none⟩=some (.string s)/\w'.cell? ⟨w.heap.size,4,none⟩=some (.slice A ns.length c))
      (first | exact Vz b0 b1 b2 b3 b4 Z4)
      (first
      | (go_at_call 99;refine (HJ.out _ Z4).mono ?_;rintro e wj ⟨rfl,ca⟩;obtain ⟨cz,cC⟩:=zy ca;have d4:=ca.size))
     ·clear cz cC
      go_wp2_with fail;go_meet;exact Fx.new_ Z4
     ·clear cz cC
      go_wp2_with fail;go_meet;exact Fx.old_ Z4 (Blk.drew (Blk.new _ _ _)) ca
    case rest =>
     as_aux_lemma =>
     obtain ⟨q,rfl,hq,ac,bj⟩:=hcut
     obtain ⟨J,rfl⟩:∃J:World,J=wc:=⟨wc,rfl⟩
     clear b0 b1 b2 b3 b4 h1;have dr:w.heap.size<w1.heap.size:=cP;have X:Below w.heap.size w J:=ku ao bj;have bc:=Y.below bj Y.lt;obtain ⟨nv,sv,mb,O,D,hA⟩:=L.out.below X;obtain ⟨An,cn,rfl⟩:=hA.nslice;obtain ⟨As,cs,rfl⟩:=hA.sslice;have HA:=hide hA;have d0:J.cell? ⟨g,0,none⟩=some (.slice An T.length cn):=hA.blk.cell 0;have d2:J.cell? ⟨g,2,none⟩=some (.map (some mb)):=hA.blk.cell 2;have e0:J.cell? ⟨q,0,none⟩=some (.int .i64 k):=ac.cell 0;have e1:J.cell? ⟨q,1,none⟩=some (.int .i64 a):=ac.cell 1;have e2:J.cell? ⟨q,2,none⟩=some (.int .i64 b):=ac.cell 2;have e3:J.cell? ⟨q,3,none⟩=some (.string s):=ac.cell 3;have e4:J.cell? ⟨q,4,none⟩=some (.string (nH js)):=ac.cell 4;have cg:Fw t js=.agg #[.int .i64 k,.int .i64 a,.int .i64 b,.string s,.string (nH js)]:=by rw [Ht.out];rfl
     have dg:(nH js).size<=1000000:=by
      have h2:=zM (js:=js) fun j hj=>by
       have h3:T[j]?∈l.map some:=by
        rw [<-ab.out];exact List.mem_map.2 ⟨j,hj,rfl⟩
       obtain ⟨u,_,hu⟩:=List.mem_map.1 h3;have:=(Yx.1 hu.symm).1;omega
      show (gZ js).length<=_;omega
     have cH:=(CW b6.out).2;obtain ⟨kl,ce⟩:∃kl,keyOf prog 184 (Ms k a b s (nH js))=some kl:=P7 ZH ZH ZH Ze Ze;have cq:nX t js kl:=by unfold nX;rw [cg];exact ce
     have cG:eF T t.l js:=by rw [Ht.out];exact ab.out
     have HK:=hide cq;have bg:=hide cG;have b7:=hide cg;have cp:=hide ce;have bd:w.heap.size<J.heap.size:=bc.lt;have x4:J.cell? ⟨w.heap.size,4,none⟩=some (.slice A ns.length c):=bc.cell 4;have xf:J.frozen? ⟨w.heap.size,4,none⟩=false:=bc.frozen 4;have b8:=hide bc;have bx:=hide ac;clear ce cq cG cg bc hA ac
     by_cases aa:t∈T
     ·obtain ⟨i,hi⟩:=List.getElem?_of_mem aa
      have cI:∀n,(Instr.lookup 103 (.map (some mb)) (.agg #[.int .i64 k,.int .i64 a,.int .i64 b,.string s,.string (nH js)]) true).run prog (J.drewN n)=.ok (.tuple #[.int .i64 i,.bool true]) (J.drewN n):=fun n=>by
       rw [<-b7.out];exact Qf (w:=J.drewN n) HA.out.map HA.out.idx hi bg.out HK.out
      have Hi:=hide hi;clear hi aa;go_wp2_with fail;go_quiet (fail);go_wp2;go_ret;rw [Ho.out];exact ⟨T,i,S,rfl,R7 Hi.out,L.out.below (below_drewN X _),Grown.of_below (below_drewN X _)⟩
     ·have cI:∀n,(Instr.lookup 103 (.map (some mb)) (.agg #[.int .i64 k,.int .i64 a,.int .i64 b,.string s,.string (nH js)]) true).run prog (J.drewN n)=.ok (.tuple #[.int .i64 0,.bool false]) (J.drewN n):=fun n=>by
       rw [<-b7.out];exact Qx (w:=J.drewN n) HA.out.map HA.out.idx HK.out bg.out aa
      have bp:=hide aa;clear aa;go_wp2_with fail;go_quiet (fail)
      go_upto_region 19 with (go_at_call 100;refine (sO (HI.out.below (below_drewN bj _)) (by simp;omega)).mono ?_;rintro e w3 ⟨v',rfl,aw,hb3⟩;simp only [Yd,cb] at aw;obtain ⟨A2,c2,rfl⟩:=iH aw;have y4:=((zy hb3).1 w.heap.size 4 bd).trans x4;have yf:=((zy hb3).2 w.heap.size 4 bd).trans xf)
      have V:Below J.heap.size J w3:=(below_drewN (Below.refl _ _) _).trans hb3;have bq:=hide aw;clear y4 yf hb3 aw e0 e1 e2 e3 e4 d0 d2 x4 xf cI
      obtain ⟨N,af⟩:∃W,W=w3.setCell ⟨w.heap.size,4,none⟩ (.slice A2 ns.length c2):=⟨_,rfl⟩
      rw [<-af];have b9:¬ S w.heap.size:=fun h=>absurd (L.out.sL _ h) Z0
      have C:ArX B N g T S (.slice An T.length cn) (.slice As T.length cs) mb O D:=(HA.out.kept (ag V none) (fun _ e=>Xv)).kept (row:=some w.heap.size) (by rw [af];exact ah (az w3 _) (.inl rfl) _) (fun b e=>by cases e;exact b9)
      have am:Blk N w.heap.size 126 #[.int .i64 k,.int .i64 a,.int .i64 b,.string s,.slice A2 ns.length c2]:=by
       rw [af];have:=(b8.out.below V b8.out.lt).set_ 4 (.slice A2 ns.length c2);simpa using this
      have cr:Blk N q 184 #[.int .i64 k,.int .i64 a,.int .i64 b,.string s,.string (nH js)]:=by
       rw [af];exact (bx.out.below V bx.out.lt).far (by simp;omega) _
      have ba:N.ownsRow w.heap.size 39 1 (.slice A2 ns.length c2) ns.length ((js.map Int.ofNat).map (Value.int .i64)):=by
       rw [af];have h2:=bq.out;exact iZ (mH (b:=J.heap.size) h2 bd _) (YC bd)
      have a5:Below w.heap.size w N:=by
       rw [af];exact (ku X V).setCell (Y2 _) _
      clear af bq b8 bx V;have F:=hide C;have ck:=hide ba;have cS:=hide am;have b5:=hide cr;clear HA ba cr;go_cut [79] (fun dt wy=>Two B g mb (T.length+1) (O.flatten++[.int .i64 k,.int .i64 a,.int .i64 b,.string s,.slice A2 ns.length c2]) ((T.map fun t=>.int .i64 ((enc t).length:Nat))++[.int .i64 ((enc t).length:Nat)]) (.slice An T.length cn) (.slice As T.length cs) N dt wy)
      case first =>
       as_aux_lemma =>
       have g0:N.cell? ⟨g,0,none⟩=some (.slice An T.length cn):=C.blk.cell 0;have g1:N.cell? ⟨g,1,none⟩=some (.slice As T.length cs):=C.blk.cell 1;have x0:N.cell? ⟨w.heap.size,0,none⟩=some (.int .i64 k):=am.cell 0;have x1:N.cell? ⟨w.heap.size,1,none⟩=some (.int .i64 a):=am.cell 1;have x2:N.cell? ⟨w.heap.size,2,none⟩=some (.int .i64 b):=am.cell 2;have x3:N.cell? ⟨w.heap.size,3,none⟩=some (.string s):=am.cell 3;have x4:N.cell? ⟨w.heap.size,4,none⟩=some (.slice A2 ns.length c2):=am.cell 4;have ng:¬ Rs (.slice An T.length cn) (.slice As T.length cs) g:=fun h=>h.elim (bf C.nodes C.blk Z2) (bf C.sizes C.blk Z2)
       have nx:¬ Rs (.slice An T.length cn) (.slice As T.length cs) w.heap.size:=fun h=>b9 (h.elim (C.sn _) (C.ss _))
       have dj:=C.nodes;have dp:=C.sizes;have cx:=C.blk;have br:∀i,Value.ownBlock (.slice An T.length cn)=some i->i<N.heap.size:=fun i hi=>C.sL i (C.sn i hi)
       have dv:B<=N.heap.size:=Yg hB a5.size;have bt:∀u∈([.int .i64 k,.int .i64 a,.int .i64 b,.string s,.slice A2 ns.length c2]:List Value),u.oneCell'=true:=Zd;have a9:∀u∈([.int .i64 ((enc t).length:Nat)]:List Value),u.oneCell'=true:=Zd;have a3:=hide bt;have Hone1:=hide a9;clear bt a9
       try clear Hh
       try clear HT
       try clear dd
       try clear ao
       try clear cN
       try clear hj
       try clear a0
       try clear Ht
       try clear b6
       try clear co
       try clear Hl
       try clear cY
       try clear Ho
       try clear cL
       try clear bo
       try clear HI
       try clear ab
       try clear cW
       try clear HJ
       try clear bj
       try clear X
       try clear dg
       try clear cH
       try clear HK
       try clear bg
       try clear cp
       try clear bd
       try clear bp
       try clear cF
       try clear b9
       try clear a5
       try clear F
       try clear ck
       try clear cS
       try clear b5
       try clear L
       try clear hq
       try clear dr
       try clear cP
       try clear ha
       try clear hb
       try clear hs
       try clear I
       try clear C
       try clear am
       try clear cb
       try clear Y
       try clear b7
       go_wp2_with fail;refine fJ (dD (Rs (.slice An T.length cn) (.slice As T.length cs)) N) (fun j=>[5,6,7,8,12,14,15].contains j) Z1 ?_
       obtain ⟨Wd,bh⟩:∃Wd,Wd=N.drew:=⟨_,rfl⟩
       rw [<-bh];have hS:dD (Rs (.slice An T.length cn) (.slice As T.length cs)) N Wd:=by rw [bh];exact (dD.refl _ _).drew
       have I:=dj;have hs:=dp;have hbg:=cx;change N.drew.ownsRow _ _ _ _ _ _ at I;change N.drew.ownsRow _ _ _ _ _ _ at hs;change Blk N.drew _ _ _ at hbg;rw [<-bh] at I hs hbg;clear bh;refine aD (i:=0) (oi:=?_) (v:=.pointer (some ⟨g,0,none⟩)) ?_ ?_ ?_ ?_ ?_ ?_ ?_ ?_;rotate_left 1
       ·(first | (simp only [Jx,Q2,Q1];exact rfl) | exact rfl)
       ·kernel_rfl
       ·kernel_rfl
       ·kernel_rfl
       ·rfl
       ·exact fun _ _ _ h=>h
       ·exact Or.inl ⟨Z5,fun w _=>Zn⟩
       try simp only [Act.put,J0,JT,Y0]
       refine aD (i:=1) (oi:=?_) (v:=.pointer (some ⟨g,0,none⟩)) ?_ ?_ ?_ ?_ ?_ ?_ ?_ ?_;rotate_left 1
       ·(first | (simp only [Jx,Q2,Q1];exact rfl) | exact rfl)
       ·kernel_rfl
       ·kernel_rfl
       ·kernel_rfl
       ·rfl
       ·exact fun _ _ _ h=>h
       ·exact Or.inl ⟨Z5,fun w _=>Zn⟩
       try simp only [Act.put,J0,JT,Y0]
       refine aD (i:=2) (oi:=?_) (v:=.pointer (some ⟨g,0,none⟩)) ?_ ?_ ?_ ?_ ?_ ?_ ?_ ?_;rotate_left 1
       ·(first | (simp only [Jx,Q2,Q1];exact rfl) | exact rfl)
       ·kernel_rfl
       ·kernel_rfl
       ·kernel_rfl
       ·rfl
       ·exact fun _ _ _ h=>h
       ·exact Or.inl ⟨Z5,fun w _=>Zn⟩
       try simp only [Act.put,J0,JT,Y0]
       refine aD (i:=9) (oi:=?_) (v:=.pointer (some ⟨g,0,none⟩)) ?_ ?_ ?_ ?_ ?_ ?_ ?_ ?_;rotate_left 1
       ·(first | (simp only [Jx,Q2,Q1];exact rfl) | exact rfl)
       ·kernel_rfl
       ·kernel_rfl
       ·kernel_rfl
       ·rfl
       ·exact fun _ _ _ h=>h
       ·exact Or.inl ⟨Z5,fun w _=>Zn⟩
       try simp only [Act.put,J0,JT,Y0]
       refine aD (i:=13) (oi:=?_) (v:=.int .i64 ((enc t).length:Nat)) ?_ ?_ ?_ ?_ ?_ ?_ ?_ ?_;rotate_left 1
       ·(first | (simp only [Jx,Q2,Q1];exact rfl) | exact rfl)
       ·kernel_rfl
       ·kernel_rfl
       ·kernel_rfl
       ·rfl
       ·exact fun _ _ _ h=>h
       ·exact Or.inl ⟨Z5,fun w _=>Zn⟩
       try simp only [Act.put,J0,JT,Y0]
       refine aD (i:=3) (oi:=?_) (v:=.pointer (some ⟨g,0,none⟩)) ?_ ?_ ?_ ?_ ?_ ?_ ?_ ?_;rotate_left 1
       ·(first | (simp only [Jx,Q2,Q1];exact rfl) | exact rfl)
       ·kernel_rfl
       ·kernel_rfl
       ·kernel_rfl
       ·rfl
       ·exact fun _ _ _ h=>h
       ·exact Or.inl ⟨Z5,fun w _=>Zn⟩
       try simp only [Act.put,J0,JT,Y0]
       refine aD (i:=10) (oi:=?_) (v:=.pointer (some ⟨g,0,none⟩)) ?_ ?_ ?_ ?_ ?_ ?_ ?_ ?_;rotate_left 1
       ·(first | (simp only [Jx,Q2,Q1];exact rfl) | exact rfl)
       ·kernel_rfl
       ·kernel_rfl
       ·kernel_rfl
       ·rfl
       ·exact fun _ _ _ h=>h
       ·exact Or.inl ⟨Z5,fun w _=>Zn⟩
       try simp only [Act.put,J0,JT,Y0]
       refine aD (i:=4) (oi:=?_) (v:=.pointer (some ⟨g,0,none⟩)) ?_ ?_ ?_ ?_ ?_ ?_ ?_ ?_;rotate_left 1
       ·(first | (simp only [Jx,Q2,Q1];exact rfl) | exact rfl)
       ·kernel_rfl
       ·kernel_rfl
       ·kernel_rfl
       ·rfl
       ·exact fun _ _ _ h=>h
       ·exact Or.inl ⟨Z5,fun w _=>Zn⟩
       try simp only [Act.put,J0,JT,Y0]
       refine aD (i:=11) (oi:=?_) (v:=.pointer (some ⟨g,1,none⟩)) ?_ ?_ ?_ ?_ ?_ ?_ ?_ ?_;rotate_left 1
       ·(first | (simp only [Jx,Q2,Q1];exact rfl) | exact rfl)
       ·kernel_rfl
       ·kernel_rfl
       ·kernel_rfl
       ·rfl
       ·exact fun _ _ _ h=>h
       ·exact Or.inl ⟨Z5,fun w _=>Zn⟩
       try simp only [Act.put,J0,JT,Y0]
       refine ak (i:=5) (oi:=?_) (v:=.slice An T.length cn) ?_ ?_ ?_ ?_ ?_ ?_ ?_ hS ?_;rotate_left 1
       ·(first | (simp only [Jx,Q2,Q1];exact rfl) | exact rfl)
       ·kernel_rfl
       ·kernel_rfl
       ·kernel_rfl
       ·kernel_rfl
       ·exact fun _ _ _ h=>h
       ·refine Or.inl ⟨Z5,fun w G=>?_⟩
        have k0:=G.cell g0 ng;clear G;go_simp
       try simp only [Act.put,J0,JT,Y0]
       refine ak (i:=6) (oi:=?_) (v:=.agg #[.int .i64 k,.int .i64 a,.int .i64 b,.string s,.slice A2 ns.length c2]) ?_ ?_ ?_ ?_ ?_ ?_ ?_ hS ?_;rotate_left 1
       ·(first | (simp only [Jx,Q2,Q1];exact rfl) | exact rfl)
       ·kernel_rfl
       ·kernel_rfl
       ·kernel_rfl
       ·kernel_rfl
       ·exact fun _ _ _ h=>h
       ·refine Or.inl ⟨Z5,fun w G=>?_⟩
        have k0:=G.cell x0 nx;have k1:=G.cell x1 nx;have k2:=G.cell x2 nx;have k3:=G.cell x3 nx;have k4:=G.cell x4 nx;clear G;go_simp
       try simp only [Act.put,J0,JT,Y0]
       refine ak (i:=12) (oi:=?_) (v:=.slice As T.length cs) ?_ ?_ ?_ ?_ ?_ ?_ ?_ hS ?_;rotate_left 1
       ·(first | (simp only [Jx,Q2,Q1];exact rfl) | exact rfl)
       ·kernel_rfl
       ·kernel_rfl
       ·kernel_rfl
       ·kernel_rfl
       ·exact fun _ _ _ h=>h
       ·refine Or.inl ⟨Z5,fun w G=>?_⟩
        have k0:=G.cell g1 ng;clear G;go_simp
       try simp only [Act.put,J0,JT,Y0]
       clear g0 g1 x0 x1 x2 x3 x4;refine au (rs:=[7,14]) Z1 Z3 ?_;refine ai.cons (o:=?_) ?_ (fun K hK=>?_) ?_;rotate_left 1
       ·(first | (simp only [Jx,Q2,Q1];exact rfl) | exact rfl)
       ·skip
        refine fI (.cells #[.int .i64 k,.int .i64 a,.int .i64 b,.string s,.slice A2 ns.length c2] 126) (x:=.tmp 77) (u:=.agg #[.int .i64 k,.int .i64 a,.int .i64 b,.string s,.slice A2 ns.length c2]) rfl Z5 (fun ρ hρ=>?_) ?_
        ·exact VL _ rfl ρ hρ _
        have I:=I.alloc (.cells #[.int .i64 k,.int .i64 a,.int .i64 b,.string s,.slice A2 ns.length c2] 126);have hs:=hs.alloc (.cells #[.int .i64 k,.int .i64 a,.int .i64 b,.string s,.slice A2 ns.length c2] 126);have hbg:=hbg.alloc (.cells #[.int .i64 k,.int .i64 a,.int .i64 b,.string s,.slice A2 ns.length c2] 126);have ds:=hS.size;have aF:=sS hS #[.int .i64 k,.int .i64 a,.int .i64 b,.string s,.slice A2 ns.length c2] 126;have hS:=hS.alloc (.cells #[.int .i64 k,.int .i64 a,.int .i64 b,.string s,.slice A2 ns.length c2] 126);refine hK.out _ _ hS (fun _=>?_);clear hK K
        try simp only [Act.put,J0,JT,Y0]
        refine au (rs:=[8,14]) Z1 Z3 ?_;refine ai.cons (o:=?_) ?_ (fun K hK=>?_) ?_;rotate_left 1
        ·(first | (simp only [Jx,Q2,Q1];exact rfl) | exact rfl)
        ·skip
         obtain ⟨iN,Z,Q,R,U⟩:=info_parts xH;refine bU _ rfl (.tmp 76) (.tmp 78) _ Z5 B 126 iN Iz 5 64 underlying104 Z Q R U Z5 Z2 (.slice An T.length cn) T.length O.flatten Z5 I _ _ 1 1 [.int .i64 k,.int .i64 a,.int .i64 b,.string s,.slice A2 ns.length c2] Z5 (eD aF Z5) a3.out Ze Z0 (by have:=hS.size;omega) ?_;intro cR wn hown1 r hat1;obtain ⟨A7,c7,rfl⟩:=iH hown1;have hs:=hs.kept r (nZ (own_ne hs I Z2));have hbg:=hbg.grown r (fun e=>ng (.inl e.symm));have hat1:=xR hat1 hS.size;have hS:=hS.grown r (fun b e=>.inl (.inl e));refine hK.out _ _ hS (fun _=>?_);clear hK K I Z Q R U iN
         try simp only [Act.put,J0,JT,Y0]
         refine au (rs:=[14]) Z1 Z3 ?_;refine ai.cons (o:=?_) ?_ (fun K hK=>?_) ai.nil;rotate_left 1
         ·(first | (simp only [Jx,Q2,Q1];exact rfl) | exact rfl)
         refine fI (.cells #[.int .i64 ((enc t).length:Nat)] 3) (x:=.tmp 84) (u:=.int .i64 ((enc t).length:Nat)) rfl Z5 (fun ρ hρ=>?_) ?_
         ·exact Uw _ rfl ρ hρ _
         have hown1:=hown1.alloc (.cells #[.int .i64 ((enc t).length:Nat)] 3);have hs:=hs.alloc (.cells #[.int .i64 ((enc t).length:Nat)] 3);have hbg:=hbg.alloc (.cells #[.int .i64 ((enc t).length:Nat)] 3);have bw:=hS.size;have hb14:=sS hS #[.int .i64 ((enc t).length:Nat)] 3;have hS:=hS.alloc (.cells #[.int .i64 ((enc t).length:Nat)] 3);refine hK.out _ _ hS (fun _=>?_);clear hK K;exact zz967
        refine ai.cons (o:=?_) ?_ (fun K hK=>?_) ai.nil;rotate_left 1
        ·(first | (simp only [Jx,Q2,Q1];exact rfl) | exact rfl)
        refine fI (.cells #[.int .i64 ((enc t).length:Nat)] 3) (x:=.tmp 84) (u:=.int .i64 ((enc t).length:Nat)) rfl Z5 (fun ρ hρ=>?_) ?_
        ·exact Uw _ rfl ρ hρ _
        have I:=I.alloc (.cells #[.int .i64 ((enc t).length:Nat)] 3);have hs:=hs.alloc (.cells #[.int .i64 ((enc t).length:Nat)] 3);have hbg:=hbg.alloc (.cells #[.int .i64 ((enc t).length:Nat)] 3);have aF:=aF.alloc (.cells #[.int .i64 ((enc t).length:Nat)] 3);have bw:=hS.size;have hb14:=sS hS #[.int .i64 ((enc t).length:Nat)] 3;have hS:=hS.alloc (.cells #[.int .i64 ((enc t).length:Nat)] 3);refine hK.out _ _ hS (fun _=>?_);clear hK K
        try simp only [Act.put,J0,JT,Y0]
        refine au (rs:=[8]) Z1 Z3 ?_;refine ai.cons (o:=?_) ?_ (fun K hK=>?_) ai.nil;rotate_left 1
        ·(first | (simp only [Jx,Q2,Q1];exact rfl) | exact rfl)
        obtain ⟨iN,Z,Q,R,U⟩:=info_parts xH;refine bU _ rfl (.tmp 76) (.tmp 78) _ Z5 B 126 iN Iz 5 64 underlying104 Z Q R U Z5 Z2 (.slice An T.length cn) T.length O.flatten Z5 I _ _ 1 1 [.int .i64 k,.int .i64 a,.int .i64 b,.string s,.slice A2 ns.length c2] Z5 (eD aF Z5) a3.out Ze Z0 (by have:=hS.size;omega) ?_;intro cR wn hown1 r hat1;obtain ⟨A7,c7,rfl⟩:=iH hown1;have hs:=hs.kept r (nZ (own_ne hs I Z2));have hbg:=hbg.grown r (fun e=>ng (.inl e.symm));have hb14:=hb14.grown r (fun e=>by have:=br _ e.symm;omega);have hat1:=xR hat1 hS.size;have hS:=hS.grown r (fun b e=>.inl (.inl e));refine hK.out _ _ hS (fun _=>?_);clear hK K I Z Q R U iN;exact zz967
       refine ai.cons (o:=?_) ?_ (fun K hK=>?_) ai.nil;rotate_left 1
       ·(first | (simp only [Jx,Q2,Q1];exact rfl) | exact rfl)
       refine fI (.cells #[.int .i64 ((enc t).length:Nat)] 3) (x:=.tmp 84) (u:=.int .i64 ((enc t).length:Nat)) rfl Z5 (fun ρ hρ=>?_) ?_
       ·exact Uw _ rfl ρ hρ _
       have I:=I.alloc (.cells #[.int .i64 ((enc t).length:Nat)] 3);have hs:=hs.alloc (.cells #[.int .i64 ((enc t).length:Nat)] 3);have hbg:=hbg.alloc (.cells #[.int .i64 ((enc t).length:Nat)] 3);have bw:=hS.size;have hb14:=sS hS #[.int .i64 ((enc t).length:Nat)] 3;have hS:=hS.alloc (.cells #[.int .i64 ((enc t).length:Nat)] 3);refine hK.out _ _ hS (fun _=>?_);clear hK K
       try simp only [Act.put,J0,JT,Y0]
       refine au (rs:=[7]) Z1 Z3 ?_;refine ai.cons (o:=?_) ?_ (fun K hK=>?_) ai.nil;rotate_left 1
       ·(first | (simp only [Jx,Q2,Q1];exact rfl) | exact rfl)
       refine fI (.cells #[.int .i64 k,.int .i64 a,.int .i64 b,.string s,.slice A2 ns.length c2] 126) (x:=.tmp 77) (u:=.agg #[.int .i64 k,.int .i64 a,.int .i64 b,.string s,.slice A2 ns.length c2]) rfl Z5 (fun ρ hρ=>?_) ?_
       ·exact VL _ rfl ρ hρ _
       have I:=I.alloc (.cells #[.int .i64 k,.int .i64 a,.int .i64 b,.string s,.slice A2 ns.length c2] 126);have hs:=hs.alloc (.cells #[.int .i64 k,.int .i64 a,.int .i64 b,.string s,.slice A2 ns.length c2] 126);have hbg:=hbg.alloc (.cells #[.int .i64 k,.int .i64 a,.int .i64 b,.string s,.slice A2 ns.length c2] 126);have hb14:=hb14.alloc (.cells #[.int .i64 k,.int .i64 a,.int .i64 b,.string s,.slice A2 ns.length c2] 126);have ds:=hS.size;have aF:=sS hS #[.int .i64 k,.int .i64 a,.int .i64 b,.string s,.slice A2 ns.length c2] 126;have hS:=hS.alloc (.cells #[.int .i64 k,.int .i64 a,.int .i64 b,.string s,.slice A2 ns.length c2] 126);refine hK.out _ _ hS (fun _=>?_);clear hK K
       try simp only [Act.put,J0,JT,Y0]
       refine au (rs:=[8]) Z1 Z3 ?_;refine ai.cons (o:=?_) ?_ (fun K hK=>?_) ai.nil;rotate_left 1
       ·(first | (simp only [Jx,Q2,Q1];exact rfl) | exact rfl)
       obtain ⟨iN,Z,Q,R,U⟩:=info_parts xH;refine bU _ rfl (.tmp 76) (.tmp 78) _ Z5 B 126 iN Iz 5 64 underlying104 Z Q R U Z5 Z2 (.slice An T.length cn) T.length O.flatten Z5 I _ _ 1 1 [.int .i64 k,.int .i64 a,.int .i64 b,.string s,.slice A2 ns.length c2] Z5 (eD aF Z5) a3.out Ze Z0 (by have:=hS.size;omega) ?_;intro cR wn hown1 r hat1;obtain ⟨A7,c7,rfl⟩:=iH hown1;have hs:=hs.kept r (nZ (own_ne hs I Z2));have hbg:=hbg.grown r (fun e=>ng (.inl e.symm));have hb14:=hb14.grown r (fun e=>by have:=br _ e.symm;omega);have hat1:=xR hat1 hS.size;have hS:=hS.grown r (fun b e=>.inl (.inl e));refine hK.out _ _ hS (fun _=>?_);clear hK K I Z Q R U iN;exact zz967
      case rest =>
       as_aux_lemma =>
       obtain ⟨A7,c7,A8,c8,rfl,a6,I,hs,hO,ct,cv⟩:=hcut
       obtain ⟨wy,rfl⟩:∃wy:World,wy=wc:=⟨wc,rfl⟩
       have cQ:¬ Rg g (.slice An T.length cn) (.slice As T.length cs) q:=by
        rintro (h | h)
        ·exact Blk.ne_ b5.out F.out.blk Z2 h
        ·have h2:=L.out.sL _ (h.elim (F.out.sn _) (F.out.ss _))
         omega
       have nm:¬ Rg g (.slice An T.length cn) (.slice As T.length cs) mb:=by
        rintro (h | h | h)
        ·exact wQ F.out.blk F.out.map h.symm
        ·exact jq F.out.nodes F.out.map h
        ·exact jq F.out.sizes F.out.map h
       have aE:=hO.blk b5.out cQ;have y2:wy.cell? ⟨g,2,none⟩=some (.map (some mb)):=a6.cell 2;have e0:wy.cell? ⟨q,0,none⟩=some (.int .i64 k):=aE.cell 0;have e1:wy.cell? ⟨q,1,none⟩=some (.int .i64 a):=aE.cell 1;have e2:wy.cell? ⟨q,2,none⟩=some (.int .i64 b):=aE.cell 2;have e3:wy.cell? ⟨q,3,none⟩=some (.string s):=aE.cell 3;have e4:wy.cell? ⟨q,4,none⟩=some (.string (nH js)):=aE.cell 4;have cV:=hide (hO.map_ F.out.map nm);have cl:=hide a6;have Hn:=hide I;have Hs:=hide hs;have HO:=hide hO;have cT:=hide ct;have cU:=hide cv;clear a6 I hs hO ct cv aE cQ nm;go_wp2_with fail;go_still_tail 6,Z1;go_wp2_with (at_mapUpdate;refine wpList_mapUpdate_own _ rfl _ _ _ 103 rfl 184 39 xg underlying103 _ mb T.length D rfl cV.out Ze _ _ kl rfl rfl cp.out (.lit (.int .i64 T.length)) [] (plainElem_int underlying39 ZH) ?_;intro wz cJ a7);go_ret;rw [Ho.out]
       have de:good t:=by
        rw [Ht.out];simp only [good]
        exact ⟨b6.out,co.out,(gT l).2 fun c hc=>by
         obtain ⟨j,hj⟩:=MN Hl.out c hc
         exact (L.out.ok.fine c (Yo hj)).1⟩
       have dk:wy.ownsRow B 126 5 (.slice A7 (T.length+1) c7) (T.length+1) (O.flatten++[.int .i64 t.k,.int .i64 t.a,.int .i64 t.b,.string t.s,.slice A2 ns.length c2]):=by
        have h7:=Hn.out;rw [Ht.out];exact h7
       have dl:N.ownsRow w.heap.size 39 1 (.slice A2 ns.length c2) js.length ((js.map Int.ofNat).map (Value.int .i64)):=by
        rw [cb];exact ck.out
       have cD:wy.grownBy wz (some mb):=⟨a7.os,a7.tape,a7.output,a7.size,a7.block⟩
       exact KJ F.out L.out.sL a5 bp.out de bo.out bg.out HK.out HO.out cD cl.out dk Hs.out cJ dl cT.out cU.out hB
   ·have Ho:=hide (show fQ T k a b s ns=none by rw [bm,lim,Y5 aq])
    have cL:¬ ((enc t).length:Int)<=131072:=Z0;clear bl cd bb hl P bm ap cM;go_wp2;go_ret;rw [Ho.out];exact Done.none_ L.out ao
end
def TxL (lo:Nat) (w:World) (v:Value) (ls:List (List UInt8)):Prop:=Strs lo w v (ls.map bs)
theorem TxL.txs {lo:Nat} {w:World} (h:TxL lo w v ls):Txs w v ls:=Strs.mono h (Yb _)
def jM (s:ByteArray) (p:Nat) (w:World) (e:Ending) (w':World):Prop:=Below w.heap.size w w' /\
  ((NoT (s.data.toList.drop p)/\e=.returned (.tuple #[.agg #[.int .i64 0,.int .i64 0,.int .i64 0,.string ⟨#[]⟩,.slice none 0 0],.int .i64 p,.bool false])) \/
   ∃(t:Tm) (q:Nat) (A:Option Addr) (n c:Nat),good t/\p<q/\q<=s.size/\s.data.toList.drop p=enc t++s.data.toList.drop q/\TxL w.heap.size w' (.slice A n c) (t.l.map enc) /\
     e=.returned (.tuple #[.agg #[.int .i64 t.k,.int .i64 t.a,.int .i64 t.b,.string t.s,.slice A n c],.int .i64 q,.bool true]))
theorem jM.no {s:ByteArray} {p:Nat} {w:World} (h:NoT (s.data.toList.drop p)) (g:Below w.heap.size w w'):jM s p w (.returned (.tuple #[.agg #[.int .i64 0,.int .i64 0,.int .i64 0,.string ⟨#[]⟩,.slice none 0 0],.int .i64 p,.bool false])) w' :=
 ⟨g,.inl ⟨h,rfl⟩⟩
def Pre (s:ByteArray) (p:Nat) (w:World) (ve vi vm:Value) (wx:World):Prop :=
  Below w.heap.size w wx/\Blk wx w.heap.size 274 #[.int .i64 0,.int .i64 0,.int .i64 0,.string ⟨#[]⟩,.slice none 0 0] /\
  ((∃(en m:Int),ve=.int .i64 en/\vi=.bool false/\vm=.int .i64 m/\NoT (s.data.toList.drop p)) \/
   ∃(k a b:Nat) (s':ByteArray) (n q:Nat) (c:UInt8),ve=.int .i64 q/\vi=.bool true/\vm=.int .i64 n/\s.data.toList.drop p=c :: s.data.toList.drop (p+1)/\c.toNat=240+k/\k<=10/\Hed k a b s' n (s.data.toList.drop (p+1)) (s.data.toList.drop q)/\p<q/\q<=s.size/\s'.size<=131072/\(k=5->n<=8)/\(k=10->n<=32) /\
     Blk wx (w.heap.size+1) 274 #[.int .i64 k,.int .i64 a,.int .i64 b,.string s',.slice none 0 0])
section
variable {s : ByteArray} {p : Nat} {w wx : World}
theorem Pre.no {g m:Int} (j:Below w.heap.size w wx) (o:Blk wx w.heap.size 274 #[.int .i64 0,.int .i64 0,.int .i64 0,.string ⟨#[]⟩,.slice none 0 0]) (h:NoT (s.data.toList.drop p)):Pre s p w (.int .i64 g) (.bool false) (.int .i64 m) wx :=
 ⟨j,o,.inl ⟨g,m,rfl,rfl,rfl,h⟩⟩
theorem Pre.yes {s':ByteArray} {c:UInt8} (D:Below w.heap.size w wx) (G:Blk wx w.heap.size 274 #[.int .i64 0,.int .i64 0,.int .i64 0,.string ⟨#[]⟩,.slice none 0 0])
  (r:s.data.toList.drop p=c :: s.data.toList.drop (p+1)) (u:c.toNat=240+k) (v:k<=10) (z:Hed k a b s' n (s.data.toList.drop (p+1)) (s.data.toList.drop q)) (A:p<q) (B:q<=s.size) (C:s'.size<=131072) (h8:k=5->n<=8) (h9:k=10->n<=32)
  (F:Blk wx (w.heap.size+1) 274 #[.int .i64 k,.int .i64 a,.int .i64 b,.string s',.slice none 0 0]) {g h:Value} (j:g=.int .i64 q) (o:h=.int .i64 n):Pre s p w g (.bool true) h wx :=
 ⟨D,G,.inr ⟨k,a,b,s',n,q,c,j,rfl,o,r,u,v,z,A,B,C,h8,h9,F⟩⟩
end
theorem VZ (o:Oper) (g:o.op=.buildSlice 22 1 #[(0,x)]) (h:Operand->Value) (j:h x=.string r) (w:World) :
  (execOp h o).run prog w=.ok (.value (.slice (some ⟨w.heap.size,0,none⟩) 1 1)) (w.alloc (.cells #[.string r] 9)):=by
 obtain ⟨d,v,t,p,q,u⟩:=o;simp only at g;subst g;go_simp
theorem zzed9 (h_:p_:=by
 obtain ⟨d,op,t,p,af,gd⟩:=o;simp only at ho;subst ho;have cc:w.cell? ⟨g,f,none⟩=some cs[f]:=(hb.cell f).trans (Array.getElem?_eq_getElem hc);have cf:=hb.frozen f
 go_simp):p_:=h_
theorem VX {g f:Nat} {T:TypeId} (o:Oper) (ho:o.op=.store 22 x y) (h:Operand->Value) (q:h x=.pointer (some ⟨g,f,none⟩)) (j:h y=.slice A n c) (w:World) (hb:Blk w g T cs) (hc:f<cs.size):(execOp h o).run prog w=.ok .skip (w.setCell ⟨g,f,none⟩ (.slice A n c)):=by
 exact zzed9
theorem VE {g:Nat} (o:Oper) (ho:o.op=.fieldAddr 274 x 4) (h:Operand->Value) (j:h x=.pointer (some ⟨g,0,none⟩)) (w:World):(execOp h o).run prog w=.ok (.value (.pointer (some ⟨g,4,none⟩))) w:=by
 exact zz810
theorem IX:(prog.info? 9).map (fun i=>(i.zero,i.size,i.bytes))=some (some (.string ⟨#[]⟩),1,16):=Z1
theorem GD {B:Nat} {a b c:World} (h:Below B a b) (k:dD R b c) (j:∀i,R i->B<=i) (o:B<=b.heap.size):Below B a c :=
 h.trans ⟨k.os,k.tape,k.output,k.size,fun i hi=>k.block i Z0 (fun g=>by have:=j i g;omega)⟩
theorem V7 {s:ByteArray} (h:hw k a b s n):n<4294967296:=by
 unfold hw at h
 split at h <;> first | omega | exact h.elim
def Lp (s:ByteArray) (q n:Nat) (w:World) (k a b:Nat) (s':ByteArray) (i:Nat) (ve vs:Value) (wr:World):Prop :=
 (∃(l:List Tm) (q':Nat) (A:Option Addr) (c:Nat),ve=.int .i64 q'/\vs=.bool true/\eH l/\l.length=i/\s.data.toList.drop q=encs l++s.data.toList.drop q'/\q<=q'/\q'<=s.size /\
  Blk wr (w.heap.size+1) 274 #[.int .i64 k,.int .i64 a,.int .i64 b,.string s',.slice A i c]/\wr.ownsRow w.heap.size 9 1 (.slice A i c) i (((l.map enc).map bs).map Value.string)) \/
 (∃en:Int,ve=.int .i64 en/\vs=.bool false/\D8 n (s.data.toList.drop q))
theorem SL {w:World} {B:Nat} (h:w.ownsRow B e 1 v i ((ls.map bs).map Value.string)) (hi:i=ls.length):TxL B w v ls:=by
 subst hi;rcases h.2 with ⟨rfl,o⟩ | ⟨g,cap,j,rfl,u,D,z,F⟩
 ·have:ls=[]:=Yc o
  subst this;exact ⟨none,0,rfl,Sl.nil_⟩
 ·have A:=Reads.of_own h
  refine ⟨some ⟨g,0,none⟩,cap,Z3,Z3,fun hn=>?_⟩;obtain ⟨C,e,q,r⟩:=A.2 XN;cases e
  exact ⟨_,rfl,u,q,r⟩
theorem uO {w:World} {B:Nat} (h:w.ownsRow B e 1 v i ((ls.map bs).map Value.string)) (hi:i=ls.length):Txs w v ls:=by
 subst hi;rcases h.2 with ⟨rfl,o⟩ | ⟨g,cap,j,rfl,u,z,q,A⟩
 ·have:ls=[]:=Yc o
  subst this;exact IV _ _
 ·have r:=Reads.of_own h
  exact ⟨some ⟨g,0,none⟩,cap,Z3,by simpa using Sl.of_reads r⟩
theorem CE {t:Tm} {l:List Tm} (h:t∈l):(enc t).length<=(encs l).length:=by
 induction l with
 | nil=>simp at h
 | cons x l ih =>
  simp only [encs,Ya];rcases Yz.1 h with rfl | h
  ·omega
  ·have:=ih h
   omega
def pJ (w:World) (g:Nat) (v0 v1 v2 v3 v4:Value):World:=((((w.setCell ⟨g,0,none⟩ v0).setCell ⟨g,1,none⟩ v1).setCell ⟨g,2,none⟩ v2).setCell ⟨g,3,none⟩ v3).setCell ⟨g,4,none⟩ v4
theorem mq {w:World} {g:Nat} {u0 u1 u2 o q:Value} (h:Blk w g t #[u0,u1,u2,o,q]) (v0 v1 v2 v3 j:Value):Blk (pJ w g v0 v1 v2 v3 j) g t #[v0,v1,v2,v3,j]:=by
 have:=((((h.set_ 0 v0).set_ 1 v1).set_ 2 v2).set_ 3 v3).set_ 4 j;simpa [pJ] using this
theorem jc {B:Nat} {w:World} {g:Nat} (h:Below B w0 w) (j:B<=g) (v0 v1 v2 v3 o:Value):Below B w0 (pJ w g v0 v1 v2 v3 o) :=
 ((((h.setCell (p:=⟨g,0,none⟩) j _).setCell (p:=⟨g,1,none⟩) j _).setCell (p:=⟨g,2,none⟩) j _).setCell (p:=⟨g,3,none⟩) j _).setCell (p:=⟨g,4,none⟩) j _
theorem MK {w:World} {B g:Nat} {u:List Value} (h:w.ownsRow B e 1 v i u) (q:Blk w g t cs) (j:e≠t) {v0 v1 v2 v3 r:Value} (G:W=pJ w g v0 v1 v2 v3 r):W.ownsRow B e 1 v i u:=by
 rw [G];have A:=dm h q j 0 v0;have o:=q.set_ 0 v0;have C:=dm A o j 1 v1;have b1:=o.set_ 1 v1;have D:=dm C b1 j 2 v2;have b2:=b1.set_ 2 v2;have F:=dm D b2 j 3 v3;have z:=b2.set_ 3 v3;exact dm F z j 4 r
theorem NZ (c:UInt8):IntKind.i64.wrap (c.toNat:Int)=c.toNat:=by
 have:=c.toNat_lt;rw [IntKind.wrap_i64];omega
theorem zz8b3 (h_:p_:=by
 go_wp2_with fail;go_meet
 exact Pre.yes (by exact ae) hz HC.out Hk.out (by omega) HH.out (by omega) (by omega) (Yb _) (by omega) (by omega) hx (by first | rfl | (congr 1;done) | (congr 1;omega)) rfl):p_:=h_
theorem zzcf7 (h_:p_:=by
 rw [<-HC.out] at HN;go_wp2_with (go_at_call 298;(with_reducible refine (HA.out _).mono ?_);rintro e w1 ⟨rfl,hb1⟩;have hx1:=hx.below hb1 hx.lt;have hz1:=hz.below hb1 hz.lt);go_meet
 exact Pre.no (by exact ae) hz1 HN.out):p_:=h_
theorem zz0e2 (h_:p_:=by
 rw [<-HC.out] at HN;clear hn;go_wp2_with (go_at_call 297;refine (HT.out _).mono ?_;rintro e w1 ⟨rfl,hb1⟩;have hx1:=hx.below hb1 hx.lt;have hz1:=hz.below hb1 hz.lt;have q3:w1.cell? ⟨w.heap.size+1,3,none⟩=some (.string ⟨#[]⟩):=hx1.cell 3;have f3:=hx1.frozen 3);go_meet
 exact Pre.no (by exact ae) (hz1.far (by simp) _) HN.out):p_:=h_
theorem zz44b (h_:p_:=by
 rw [<-HC.out] at HN;go_wp2_with (go_at_call 298;(with_reducible refine (HA.out _).mono ?_);rintro e w1 ⟨rfl,hb1⟩;have hx1:=hx.below hb1 hx.lt;have hz1:=hz.below hb1 hz.lt;have q1:w1.cell? ⟨w.heap.size+1,1,none⟩=some (.int .i64 0):=hx1.cell 1;have f1:=hx1.frozen 1);go_meet
 exact Pre.no (by exact ae) (hz1.far (by simp) _) HN.out):p_:=h_
theorem zzb0c (h_:p_:=by
 go_wp2_with (first | (go_at_call 297;refine (HT.out _).mono ?_;rintro e w1 ⟨rfl,hb1⟩;have hx1:=hx.below hb1 hx.lt;have hz1:=hz.below hb1 hz.lt;have q3:w1.cell? ⟨w.heap.size+1,3,none⟩=some (.string ⟨#[]⟩):=hx1.cell 3;have f3:=hx1.frozen 3) | (go_at_call 298;(with_reducible refine (HB.out _).mono ?_);rintro e w2 ⟨rfl,hb2⟩;have hx2:=(hx1.set_ 3 (.string t)).below hb2 (by have:=hx1.lt;simpa using this);have hz2:=(hz1.far (p:=⟨w.heap.size+1,3,none⟩) (by simp) (.string t)).below hb2 (by have:=hz1.lt;simpa using this);simp only [J0,JT,Y0] at hx2));go_meet
 exact Pre.no (by exact ae) hz2 HN.out):p_:=h_
theorem zz8b1 (h_:p_:=by
 have Htl:=hide (show (bs ((s.data.toList.drop (p+1+4)).take n)).size<=131072 by rw [aI,Yq,Yu];have:s.data.toList.length=s.size:=rfl;omega);generalize bs ((s.data.toList.drop (p+1+4)).take n)=t at HT HH Htl;have Hn:=hide hn;clear hn;go_wp2_with (go_at_call 297;refine (HT.out _).mono ?_;rintro e w1 ⟨rfl,hb1⟩;have hx1:=hx.below hb1 hx.lt;have hz1:=hz.below hb1 hz.lt;have q3:w1.cell? ⟨w.heap.size+1,3,none⟩=some (.string ⟨#[]⟩):=hx1.cell 3;have f3:=hx1.frozen 3);go_meet
 exact Pre.yes (by exact ae) (hz1.far (by simp) _) HC.out Hk.out (by omega) HH.out (by omega) (by omega) Htl.out (by omega) (by omega) (by simpa [eB] using hx1.set_ 3 (.string t)) (by first | rfl | (congr 1;done) | (congr 1;omega)) rfl):p_:=h_
theorem zz926 (h_:p_:=by
 obtain ⟨W,hW⟩:∃W,W=pJ wr w.heap.size (.int .i64 0) (.int .i64 0) (.int .i64 0) (.string ⟨#[]⟩) (.slice none 0 0):=⟨_,rfl⟩
 change bodyPost _ _ _ _ _ (pJ wr w.heap.size (.int .i64 0) (.int .i64 0) (.int .i64 0) (.string ⟨#[]⟩) (.slice none 0 0));rw [<-hW];have hBW:Blk W w.heap.size 274 #[.int .i64 0,.int .i64 0,.int .i64 0,.string ⟨#[]⟩,.slice none 0 0]:=by rw [hW];exact mq hzr _ _ _ _ _
 have hbW:Below w.heap.size w W:=by rw [hW];exact jc hbr (Y2 _) _ _ _ _ _
 have r0:W.cell? ⟨w.heap.size,0,none⟩=some (.int .i64 0):=hBW.cell 0;have r1:W.cell? ⟨w.heap.size,1,none⟩=some (.int .i64 0):=hBW.cell 1;have r2:W.cell? ⟨w.heap.size,2,none⟩=some (.int .i64 0):=hBW.cell 2;have r3:W.cell? ⟨w.heap.size,3,none⟩=some (.string ⟨#[]⟩):=hBW.cell 3;have r4:W.cell? ⟨w.heap.size,4,none⟩=some (.slice none 0 0):=hBW.cell 4;clear hW
 exact bodyPost_ret (v:=.tuple #[.agg #[.int .i64 0,.int .i64 0,.int .i64 0,.string ⟨#[]⟩,.slice none 0 0],.int .i64 p,.bool false]) (by simp [results,results263,go_sem,r0,r1,r2,r3,r4]) rfl (jM.no Hno.out hbW)):p_:=h_
theorem zzedf (h_:p_:=by
 refine wp_loop_rounds 1 ?_;rw [rounds_succ];go_wp2_with fail
 obtain ⟨W,hW⟩:∃W,W=pJ wy w.heap.size (.int .i64 0) (.int .i64 0) (.int .i64 0) (.string ⟨#[]⟩) (.slice none 0 0):=⟨_,rfl⟩
 change bodyPost _ _ _ _ _ (pJ wy w.heap.size (.int .i64 0) (.int .i64 0) (.int .i64 0) (.string ⟨#[]⟩) (.slice none 0 0));rw [<-hW];have hBW:Blk W w.heap.size 274 #[.int .i64 0,.int .i64 0,.int .i64 0,.string ⟨#[]⟩,.slice none 0 0]:=by rw [hW];exact mq hzw _ _ _ _ _
 have hbW:Below w.heap.size w W:=by rw [hW];exact jc hbw (Y2 _) _ _ _ _ _
 have r0:W.cell? ⟨w.heap.size,0,none⟩=some (.int .i64 0):=hBW.cell 0;have r1:W.cell? ⟨w.heap.size,1,none⟩=some (.int .i64 0):=hBW.cell 1;have r2:W.cell? ⟨w.heap.size,2,none⟩=some (.int .i64 0):=hBW.cell 2;have r3:W.cell? ⟨w.heap.size,3,none⟩=some (.string ⟨#[]⟩):=hBW.cell 3;have r4:W.cell? ⟨w.heap.size,4,none⟩=some (.slice none 0 0):=hBW.cell 4;clear hW z0 z1 z2 z3 z4 zf0 zf1 zf2 zf3 zf4 hzw
 exact bodyPost_ret (v:=.tuple #[.agg #[.int .i64 0,.int .i64 0,.int .i64 0,.string ⟨#[]⟩,.slice none 0 0],.int .i64 p,.bool false]) (by simp [results,results263,go_sem,r0,r1,r2,r3,r4]) rfl (jM.no Hno.out hbW)):p_:=h_
theorem Es (s:ByteArray) (hs:s.size<=131072) (m:Nat) (ih:∀(p:Nat) (w:World),s.size - p<=m->p<=s.size->Calls prog 263 #[.string s,.int .i64 p] w (jM s p w)) (p:Nat) (hp:p<s.size) (hm:s.size - p<=m+1) (w:World) :
  Calls prog 263 #[.string s,.int .i64 p] w (jM s p w):=by
 have IH:=hide ih;clear ih;have cs:(p:Int)<s.size:=Z0;have cr:(0:Int)<=p:=Z0;have b4:s.data.toList.length=s.size:=rfl;have O:=fF (s:=s.data.toList) (p:=p) Z0;have aw:s.data.toList[p]'Z0=s[p]:=rfl;rw [aw] at O;have HC:=hide O;have av:=s[p].toNat_lt;have bt:(s.data.toList.drop (p+1)).length=s.size - (p+1):=by rw [Yu,b4]
 have Hl1:=hide bt;have r:=hide (fun j:Nat=>Yr (i:=j) (j:=p+1) (l:=s.data.toList));clear O aw b4 bt;go_enter func263,ntmps263
 go_upto_block 0 with (fail)
 obtain ⟨wx,ab⟩:∃wx,wx=(w.alloc (.cells #[.int .i64 0,.int .i64 0,.int .i64 0,.string ⟨#[]⟩,.slice none 0 0] 274)).alloc (.cells #[.int .i64 ((s[p].toNat:Int) - 240),.int .i64 0,.int .i64 0,.string ⟨#[]⟩,.slice none 0 0] 274):=⟨_,rfl⟩
 rw [<-ab]
 have hb:Below w.heap.size w wx:=by
  rw [ab];exact ((Below.refl _ _).alloc (Y2 _) _).alloc Z3 _
 have hz:Blk wx w.heap.size 274 #[.int .i64 0,.int .i64 0,.int .i64 0,.string ⟨#[]⟩,.slice none 0 0]:=by
  rw [ab];exact (Blk.new w _ _).alloc _
 have ac:Blk wx (w.heap.size+1) 274 #[.int .i64 ((s[p].toNat:Int) - 240),.int .i64 0,.int .i64 0,.string ⟨#[]⟩,.slice none 0 0]:=by
  rw [ab];have:=Blk.new (w.alloc (.cells #[.int .i64 0,.int .i64 0,.int .i64 0,.string ⟨#[]⟩,.slice none 0 0] 274)) 274 #[.int .i64 ((s[p].toNat:Int) - 240),.int .i64 0,.int .i64 0,.string ⟨#[]⟩,.slice none 0 0];simpa using this
 clear ab
 obtain ⟨c,hc⟩:∃c,c=s[p]:=⟨_,rfl⟩
 rw [<-hc] at ac av HC ⊢;clear hc
 obtain ⟨kk,aa⟩:∃kk:Int,kk=(c.toNat:Int) - 240:=⟨_,rfl⟩
 rw [<-aa] at ac ⊢;have a0:=hide aa;clear aa;go_cut [8,9,10] (fun ve vi vm wy=>Pre s p w ve vi vm wy)
 case first =>
  as_aux_lemma =>
  by_cases br:241<=c.toNat/\c.toNat<=250
  ·obtain ⟨k,hk⟩:∃k:Nat,c.toNat=240+k:=⟨c.toNat - 240,Z0⟩
   have Hk:=hide hk;have cf:kk=k:=by rw [a0.out];omega
   subst cf;have hx:=ac;have cj:1<=k/\k<=10:=Z0;clear hk br av ac a0;obtain rfl | rfl | rfl | rfl | rfl | rfl | rfl | rfl | rfl | rfl:k=1\/k=2\/k=3\/k=4\/k=5\/k=6\/k=7\/k=8\/k=9\/k=10:=Z0
   --KINDS
   ·obtain ⟨n,hn⟩:∃n,n=n4 (s.data.toList.drop (p+1)):=⟨_,rfl⟩
    by_cases hh:p+1+4<=s.size/\p+1+4+n<=s.size
    ·have HT:=hide (fun W=>sU s (p+1) ((p:Int)+1) Z0 W Z0 Z0 hh.1 hn hh.2 ((p:Int)+1+4+n) Z0 rfl)
     have HH:=hide (U0 (s1:=s.data.toList.drop (p+1)) ZF ZT);rw [r.out,r.out,<- hn] at HH;change Hid (Hed 1 0 0 (bs ((s.data.toList.drop (p+1+4)).take n)) 0 _ _) at HH;exact zz8b1
    ·have HT:=hide (fun W=>wU s (p+1) ((p:Int)+1) Z0 W Z0 Z0 (by rw [<-hn];omega))
     have HN:=hide (no1 (c:=c) (s1:=s.data.toList.drop (p+1)) Hk.out ZT);exact zz0e2
   ·by_cases V:p+1+4<=s.size
    ·obtain ⟨n,hn⟩:∃n,n=n4 (s.data.toList.drop (p+1)):=⟨_,rfl⟩
     have HA:=hide (fun W=>j3 s (p+1) ((p:Int)+1) Z0 W Z0 Z0 V hn)
     by_cases h8:p+1+8<=s.size
     ·obtain ⟨m,hm⟩:∃m,m=n4 (s.data.toList.drop (p+1+4)):=⟨_,rfl⟩
      have HB:=hide (fun W=>j3 s (p+1+4) ((p:Int)+1+4) Z0 W Z0 Z0 Z0 hm);have HH:=hide (U7 (s1:=s.data.toList.drop (p+1)) ZF);rw [r.out,r.out,<- hn,<- hm] at HH;clear hn hm;go_wp2_with (first | (go_at_call 298;(with_reducible refine (HA.out _).mono ?_);rintro e w1 ⟨rfl,hb1⟩;have hx1:=hx.below hb1 hx.lt;have hz1:=hz.below hb1 hz.lt;have q1:w1.cell? ⟨w.heap.size+1,1,none⟩=some (.int .i64 0):=hx1.cell 1;have f1:=hx1.frozen 1) | (go_at_call 298;(with_reducible refine (HB.out _).mono ?_);rintro e w2 ⟨rfl,hb2⟩;have hx2:=(hx1.set_ 1 (.int .i64 n)).below hb2 (by have:=hx1.lt;simpa using this);have hz2:=(hz1.far (p:=⟨w.heap.size+1,1,none⟩) Z3 (.int .i64 n)).below hb2 (by have:=hz1.lt;simpa using this);simp only [J0,JT,Y0] at hx2;have q2:w2.cell? ⟨w.heap.size+1,2,none⟩=some (.int .i64 0):=hx2.cell 2;have f2:=hx2.frozen 2));go_meet;exact Pre.yes Z4 (hz2.far Z3 _) HC.out Hk.out Z0 HH.out Z0 Z0 (Yb _) Z0 Z0 (by simpa [eB] using hx2.set_ 2 (.int .i64 m)) ZG rfl
     ·have HB:=hide (fun W=>lX s (p+1+4) ((p:Int)+1+4) Z0 W Z0 Z0 Z0)
      have HN:=hide (no2 (c:=c) (s1:=s.data.toList.drop (p+1)) Hk.out ZF);rw [<-HC.out] at HN;clear hn;go_wp2_with (first | (go_at_call 298;(with_reducible refine (HA.out _).mono ?_);rintro e w1 ⟨rfl,hb1⟩;have hx1:=hx.below hb1 hx.lt;have hz1:=hz.below hb1 hz.lt;have q1:w1.cell? ⟨w.heap.size+1,1,none⟩=some (.int .i64 0):=hx1.cell 1;have f1:=hx1.frozen 1) | (go_at_call 298;(with_reducible refine (HB.out _).mono ?_);rintro e w2 ⟨rfl,hb2⟩;have hx2:=(hx1.set_ 1 (.int .i64 n)).below hb2 (by have:=hx1.lt;simpa using this);have hz2:=(hz1.far (p:=⟨w.heap.size+1,1,none⟩) Z3 (.int .i64 n)).below hb2 (by have:=hz1.lt;simpa using this);simp only [J0,JT,Y0] at hx2;have q2:w2.cell? ⟨w.heap.size+1,2,none⟩=some (.int .i64 0):=hx2.cell 2;have f2:=hx2.frozen 2));go_meet;exact Pre.no Z4 (hz2.far Z3 _) HN.out
    ·have HA:=hide (fun W=>lX s (p+1) ((p:Int)+1) Z0 W Z0 Z0 Z0)
     have HN:=hide (no2 (c:=c) (s1:=s.data.toList.drop (p+1)) Hk.out ZF);exact zz44b
   ·by_cases V:p+1+4<=s.size
    ·obtain ⟨n,hn⟩:∃n,n=n4 (s.data.toList.drop (p+1)):=⟨_,rfl⟩
     have HA:=hide (fun W=>j3 s (p+1) ((p:Int)+1) Z0 W Z0 Z0 V hn);have HH:=hide (Vs (s1:=s.data.toList.drop (p+1)) ZF);rw [r.out,<- hn] at HH;clear hn;go_wp2_with (go_at_call 298;(with_reducible refine (HA.out _).mono ?_);rintro e w1 ⟨rfl,hb1⟩;have hx1:=hx.below hb1 hx.lt;have hz1:=hz.below hb1 hz.lt;have q1:w1.cell? ⟨w.heap.size+1,1,none⟩=some (.int .i64 0):=hx1.cell 1;have f1:=hx1.frozen 1);go_meet;exact Pre.yes Z4 (hz1.far Z3 _) HC.out Hk.out Z0 HH.out Z0 Z0 (Yb _) Z0 Z0 (by simpa [eB] using hx1.set_ 1 (.int .i64 n)) ZG rfl
    ·have HA:=hide (fun W=>lX s (p+1) ((p:Int)+1) Z0 W Z0 Z0 Z0)
     have HN:=hide (no3 (c:=c) (s1:=s.data.toList.drop (p+1)) Hk.out ZF);exact zz44b
   ·have HH:=hide (U1 (s1:=s.data.toList.drop (p+1)))
    exact zz8b3
   ·obtain ⟨n,hn⟩:∃n,n=n4 (s.data.toList.drop (p+1)):=⟨_,rfl⟩
    by_cases hh:p+1+4<=s.size/\p+1+4+n<=s.size
    ·have HT:=hide (fun W=>sU s (p+1) ((p:Int)+1) Z0 W Z0 Z0 hh.1 hn hh.2 ((p:Int)+1+4+n) Z0 rfl)
     have Htl:=hide (show (bs ((s.data.toList.drop (p+1+4)).take n)).size<=131072 by rw [aI,Yq,Yu];have:s.data.toList.length=s.size:=rfl;omega)
     by_cases h8:p+1+4+n+4<=s.size
     ·obtain ⟨m,hm⟩:∃m,m=n4 (s.data.toList.drop (p+1+4+n)):=⟨_,rfl⟩
      have HB:=hide (fun W=>j3 s (p+1+4+n) ((p:Int)+1+4+n) Z0 W Z0 Z0 h8 hm);have HH:=hide (VK (s1:=s.data.toList.drop (p+1)) ZF ZT);rw [r.out,r.out,r.out,<- hn,show p+1+(4+n)=p+1+4+n by omega,<- hm,show p+1+(8+n)=p+1+4+n+4 by omega] at HH;change Hid (Hed 5 0 0 (bs ((s.data.toList.drop (p+1+4)).take n)) m _ _) at HH;generalize bs ((s.data.toList.drop (p+1+4)).take n)=t at HT HH Htl;clear hn hm
      by_cases a6:m<=8
      ·have a7:(m:Int)<=8:=by omega
       go_wp2_with (first | (go_at_call 297;refine (HT.out _).mono ?_;rintro e w1 ⟨rfl,hb1⟩;have hx1:=hx.below hb1 hx.lt;have hz1:=hz.below hb1 hz.lt;have q3:w1.cell? ⟨w.heap.size+1,3,none⟩=some (.string ⟨#[]⟩):=hx1.cell 3;have f3:=hx1.frozen 3) | (go_at_call 298;(with_reducible refine (HB.out _).mono ?_);rintro e w2 ⟨rfl,hb2⟩;have hx2:=(hx1.set_ 3 (.string t)).below hb2 (by have:=hx1.lt;simpa using this);have hz2:=(hz1.far (p:=⟨w.heap.size+1,3,none⟩) Z3 (.string t)).below hb2 (by have:=hz1.lt;simpa using this);simp only [J0,JT,Y0] at hx2));go_meet;exact Pre.yes Z4 hz2 HC.out Hk.out Z0 HH.out Z0 Z0 Htl.out Z0 Z0 hx2 ZG rfl
      ·have a7:decide ((m:Int)<=8)=false:=Y7 Z0
       have HN:=hide (HH.out.nohd (c:=c) Hk.out (fun h=>a6 h.2.2.1));rw [<-HC.out] at HN;exact zzb0c
     ·have HB:=hide (fun W=>lX s (p+1+4+n) ((p:Int)+1+4+n) Z0 W Z0 Z0 Z0)
      have HN:=hide (Vp (c:=c) (s1:=s.data.toList.drop (p+1)) Hk.out ZF ZT);rw [<-HC.out] at HN;generalize bs ((s.data.toList.drop (p+1+4)).take n)=t at HT Htl;clear hn;exact zzb0c
    ·have HT:=hide (fun W=>wU s (p+1) ((p:Int)+1) Z0 W Z0 Z0 (by rw [<-hn];omega))
     have HN:=hide (no5 (c:=c) (s1:=s.data.toList.drop (p+1)) Hk.out ZT);exact zz0e2
   ·obtain ⟨n,hn⟩:∃n,n=n4 (s.data.toList.drop (p+1)):=⟨_,rfl⟩
    by_cases hh:p+1+4<=s.size/\p+1+4+n<=s.size
    ·have HT:=hide (fun W=>sU s (p+1) ((p:Int)+1) Z0 W Z0 Z0 hh.1 hn hh.2 ((p:Int)+1+4+n) Z0 rfl)
     have HH:=hide (Vf (s1:=s.data.toList.drop (p+1)) ZF ZT);rw [r.out,r.out,<- hn] at HH;change Hid (Hed 6 0 0 (bs ((s.data.toList.drop (p+1+4)).take n)) 2 _ _) at HH;exact zz8b1
    ·have HT:=hide (fun W=>wU s (p+1) ((p:Int)+1) Z0 W Z0 Z0 (by rw [<-hn];omega))
     have HN:=hide (no6 (c:=c) (s1:=s.data.toList.drop (p+1)) Hk.out ZT);exact zz0e2
   ·have HH:=hide (VJ (s1:=s.data.toList.drop (p+1)))
    exact zz8b3
   ·by_cases h2:p+1<s.size
    ·have ca:(p:Int)+1<s.size:=by omega
     have a3:=fF (s:=s.data.toList) (p:=p+1) h2;have bl:s.data.toList[p+1]'(by exact h2)=s[p+1]:=rfl;rw [bl] at a3
     have HH:Hid (Hed 8 0 s[p+1].toNat eB 3 (s.data.toList.drop (p+1)) (s.data.toList.drop (p+2))):=by
      rw [a3];exact Vg
     have e0:((p:Int)+1).toNat=p+1:=Z0;have cn:=NZ s[p+1];have p1:(0:Int)<=(p:Int)+1:=Z0;have q2:wx.cell? ⟨w.heap.size+1,2,none⟩=some (.int .i64 0):=hx.cell 2;have f2:=hx.frozen 2;clear a3 bl;go_wp2_with fail;go_meet;exact Pre.yes Z4 (hz.far Z3 _) HC.out Hk.out Z0 HH.out Z0 Z0 (Yb _) Z0 Z0 (by simpa [eB] using hx.set_ 2 (.int .i64 s[p+1].toNat)) ZG rfl
    ·have ca:¬ (p:Int)+1<s.size:=by omega
     have HN:=hide (no8 (c:=c) (s1:=s.data.toList.drop (p+1)) Hk.out (Yc ZF));rw [<-HC.out] at HN;go_wp2_with fail;go_meet;exact Pre.no Z4 hz HN.out
   ·by_cases V:p+1+4<=s.size
    ·obtain ⟨n,hn⟩:∃n,n=n4 (s.data.toList.drop (p+1)):=⟨_,rfl⟩
     have HA:=hide (fun W=>j3 s (p+1) ((p:Int)+1) Z0 W Z0 Z0 V hn);have HH:=hide (Vd (s1:=s.data.toList.drop (p+1)) ZF);rw [r.out,<- hn] at HH;clear hn;go_wp2_with (go_at_call 298;(with_reducible refine (HA.out _).mono ?_);rintro e w1 ⟨rfl,hb1⟩;have hx1:=hx.below hb1 hx.lt;have hz1:=hz.below hb1 hz.lt;have q2:w1.cell? ⟨w.heap.size+1,2,none⟩=some (.int .i64 0):=hx1.cell 2;have f2:=hx1.frozen 2);go_meet;exact Pre.yes Z4 (hz1.far Z3 _) HC.out Hk.out Z0 HH.out Z0 Z0 (Yb _) Z0 Z0 (by simpa [eB] using hx1.set_ 2 (.int .i64 n)) ZG rfl
    ·have HA:=hide (fun W=>lX s (p+1) ((p:Int)+1) Z0 W Z0 Z0 Z0)
     have HN:=hide (no9 (c:=c) (s1:=s.data.toList.drop (p+1)) Hk.out ZF);rw [<-HC.out] at HN;go_wp2_with (go_at_call 298;(with_reducible refine (HA.out _).mono ?_);rintro e w1 ⟨rfl,hb1⟩;have hx1:=hx.below hb1 hx.lt;have hz1:=hz.below hb1 hz.lt;have q2:w1.cell? ⟨w.heap.size+1,2,none⟩=some (.int .i64 0):=hx1.cell 2;have f2:=hx1.frozen 2);go_meet;exact Pre.no Z4 (hz1.far Z3 _) HN.out
   ·by_cases V:p+1+4<=s.size
    ·obtain ⟨n,hn⟩:∃n,n=n4 (s.data.toList.drop (p+1)):=⟨_,rfl⟩
     have HA:=hide (fun W=>j3 s (p+1) ((p:Int)+1) Z0 W Z0 Z0 V hn);have HH:=hide (TD (s1:=s.data.toList.drop (p+1)) ZF);rw [r.out,<- hn] at HH;clear hn
     by_cases a6:n<=32
     ·have a7:(n:Int)<=32:=by omega
      go_wp2_with (go_at_call 298;(with_reducible refine (HA.out _).mono ?_);rintro e w1 ⟨rfl,hb1⟩;have hx1:=hx.below hb1 hx.lt;have hz1:=hz.below hb1 hz.lt);go_meet;exact Pre.yes Z4 hz1 HC.out Hk.out Z0 HH.out Z0 Z0 (Yb _) Z0 Z0 hx1 ZG rfl
     ·have a7:decide ((n:Int)<=32)=false:=Y7 Z0
      have HN:=hide (HH.out.nohd (c:=c) Hk.out (fun h=>a6 h.2.2.1));exact zzcf7
    ·have HA:=hide (fun W=>lX s (p+1) ((p:Int)+1) Z0 W Z0 Z0 Z0)
     have HN:=hide (VF (c:=c) (s1:=s.data.toList.drop (p+1)) Hk.out ZF);exact zzcf7
   --ENDKINDS
  ·have HN:=hide (show NoT (s.data.toList.drop p) by rw [HC.out];exact Qq Z0)
   have aa:=a0.out;have t1:(kk == 1)=false:=Y3.2 Z0;have t2:(kk == 2)=false:=Y3.2 Z0;have t3:(kk == 3)=false:=Y3.2 Z0;have t4:(kk == 4)=false:=Y3.2 Z0;have t5:(kk == 5)=false:=Y3.2 Z0;have t6:(kk == 6)=false:=Y3.2 Z0;have t7:(kk == 7)=false:=Y3.2 Z0;have t8:(kk == 8)=false:=Y3.2 Z0;have t9:(kk == 9)=false:=Y3.2 Z0;have cz:(kk == 10)=false:=Y3.2 Z0;clear aa br;go_wp2_with fail;go_meet;exact Pre.no Z4 hz HN.out
 case rest =>
  as_aux_lemma =>
  obtain ⟨wy,rfl⟩:∃wy:World,wy=wc:=⟨wc,rfl⟩
  obtain ⟨hbw,hzw,cc⟩:=hcut;clear hb hz ac;rcases cc with ⟨en,mm,rfl,rfl,rfl,I⟩ | ⟨k,a,b,s',n,q,c',rfl,rfl,rfl,h1,h2,h3,V,h5,h6,h7,h8,h9,a9⟩
  ·have Hno:=hide I
   have z0:wy.cell? ⟨w.heap.size,0,none⟩=some (.int .i64 0):=hzw.cell 0;have z1:wy.cell? ⟨w.heap.size,1,none⟩=some (.int .i64 0):=hzw.cell 1;have z2:wy.cell? ⟨w.heap.size,2,none⟩=some (.int .i64 0):=hzw.cell 2;have z3:wy.cell? ⟨w.heap.size,3,none⟩=some (.string ⟨#[]⟩):=hzw.cell 3;have z4:wy.cell? ⟨w.heap.size,4,none⟩=some (.slice none 0 0):=hzw.cell 4;have zf0:=hzw.frozen 0;have zf1:=hzw.frozen 1;have zf2:=hzw.frozen 2;have zf3:=hzw.frozen 3;have zf4:=hzw.frozen 4;clear I
   by_cases cp:0<mm
   ·go_wp2_with fail
    exact zzedf
   ·go_wp2_with fail
    exact zzedf
  ·have H1:=hide h1
   have H2:=hide h2;have H4:=hide V;have H8:=hide h8;have H9:=hide h9;have cq:n<4294967296:=V7 V.1;clear h1 h2 V h8 h9;go_wp2_with fail
   go_loopw [11,8,9] (fun vi ve vs wr=>∃(i:Nat),vi=.int .i64 i/\i<=n/\Below w.heap.size w wr/\Blk wr w.heap.size 274 #[.int .i64 0,.int .i64 0,.int .i64 0,.string ⟨#[]⟩,.slice none 0 0]/\Lp s q n w k a b s' i ve vs wr) (fun vi _ _ _=>n - (intOf vi).toNat)
   case atStart=>exact ⟨0,rfl,Yb _,hbw,hzw,.inl ⟨[],q,none,0,rfl,rfl,trivial,rfl,rfl,Y2 _,h6,a9,World.ownsRow_nil _ _ _ _⟩⟩
   case round =>
    obtain ⟨i,rfl,co,hbr,hzr,cg⟩:=hrel;rcases cg with ⟨l,N,A,c2,rfl,rfl,hg,bw,hd,ct,b0,B,J⟩ | ⟨en,rfl,rfl,I⟩
    ·have Hd:=hide hd
     have z:=hide bw;have Hg:=hide hg;clear hd bw hg
     by_cases a5:i<n
     ·have bp:(i:Int)<n:=by omega
      go_wp2_with fail;refine (IH.out N wr Z0 b0).mono ?_;rintro e w2 ⟨hb2,b3⟩;have bj:Below w.heap.size w w2:=ku hbr hb2;have af:=hzr.below hb2 hzr.lt;have aF:=B.below hb2 B.lt;rcases b3 with ⟨I,rfl⟩ | ⟨t,q2,A2,n2,c3,bm,cv,ch,a4,ci,rfl⟩
      ·have b8:=hide (yX Hg.out z.out a5 Hd.out I)
       clear I;go_wp2_with fail;exact ⟨⟨i+1,Zr,a5,Z4,af.alloc _,.inr ⟨_,rfl,rfl,b8.out⟩⟩,Zh⟩
      ·have b9:=hide bm
       have ba:=hide a4
       have b5:(enc t).length=q2 - N:=by
        have h9:=Ye List.length a4;rw [Ya,Yu,Yu] at h9;have:s.data.toList.length=s.size:=rfl;omega
       have cd:=hide (show s.extract N q2=bs (enc t) by
        rw [AX,ba.out,<- b5,List.take_left])
       have cx:(N:Int)<=q2:=Z0;have cy:(q2:Int)<=s.size:=Z0;have a8:=hide (LM Hd.out ba.out);have ce:=hide (wT Hg.out b9.out);clear bm a4 ci b5;go_wp2_with fail
       --APP
       have ad:=aF.alloc (.cells #[.int .i64 t.k,.int .i64 t.a,.int .i64 t.b,.string t.s,.slice A2 n2 c3] 274);have R:=af.alloc (.cells #[.int .i64 t.k,.int .i64 t.a,.int .i64 t.b,.string t.s,.slice A2 n2 c3] 274);have G:Below w.heap.size w (w2.alloc (.cells #[.int .i64 t.k,.int .i64 t.a,.int .i64 t.b,.string t.s,.slice A2 n2 c3] 274)):=Z4;have T:(w2.alloc (.cells #[.int .i64 t.k,.int .i64 t.a,.int .i64 t.b,.string t.s,.slice A2 n2 c3] 274)).ownsRow w.heap.size 9 1 (.slice A i c2) i (((l.map enc).map bs).map Value.string):=(J.kept (ag hb2 none) (nZ (fun _ _=>Z3))).alloc _;clear aF af J bj hb2 hzr B hbr hzw a9 hbw;generalize w2.alloc (.cells #[.int .i64 t.k,.int .i64 t.a,.int .i64 t.b,.string t.s,.slice A2 n2 c3] 274)=W2 at ad R G T ⊢;have ng:¬ (fun j=>(Value.slice A i c2).ownBlock=some j) (w.heap.size+1):=fun h=>bf T ad Z2 h
       have nz:¬ (fun j=>(Value.slice A i c2).ownBlock=some j) w.heap.size:=fun h=>bf T R Z2 h
       have g4:W2.cell? ⟨w.heap.size+1,4,none⟩=some (.slice A i c2):=ad.cell 4;have bx:∀j,(Value.slice A i c2).ownBlock=some j->w.heap.size<=j:=fun j hj=>(T.lt j hj).1
       refine fJ (dD (fun j=>(Value.slice A i c2).ownBlock=some j) W2) (fun j=>[1,6,7].contains j) Z1 ?_
       obtain ⟨Wd,an⟩:∃Wd,Wd=W2.drew:=⟨_,rfl⟩
       rw [<-an];have S:dD (fun j=>(Value.slice A i c2).ownBlock=some j) W2 Wd:=by rw [an];exact (dD.refl _ _).drew
       have hn:=T;have C:=ad;change W2.drew.ownsRow _ _ _ _ _ _ at hn;change Blk W2.drew _ _ _ at C;rw [<-an] at hn C;clear an;refine aD (i:=0) (oi:=?_) (v:=.pointer (some ⟨w.heap.size+1,4,none⟩)) ?_ ?_ ?_ ?_ ?_ ?_ ?_ ?_;rotate_left 1
       ·(first | (simp only [Jx,Q2,Q1];exact rfl) | exact rfl)
       ·kernel_rfl
       ·kernel_rfl
       ·kernel_rfl
       ·rfl
       ·exact fun _ _ _ h=>h
       ·exact Or.inl ⟨Z5,fun w _=>Zn⟩
       try simp only [Act.put,J0,JT,Y0]
       refine aD (i:=2) (oi:=?_) (v:=.string s) ?_ ?_ ?_ ?_ ?_ ?_ ?_ ?_;rotate_left 1
       ·(first | (simp only [Jx,Q2,Q1];exact rfl) | exact rfl)
       ·kernel_rfl
       ·kernel_rfl
       ·kernel_rfl
       ·rfl
       ·exact fun _ _ _ h=>h
       ·exact Or.inl ⟨Z5,fun w _=>Zn⟩
       try simp only [Act.put,J0,JT,Y0]
       refine aD (i:=3) (oi:=?_) (v:=.int .i64 N) ?_ ?_ ?_ ?_ ?_ ?_ ?_ ?_;rotate_left 1
       ·(first | (simp only [Jx,Q2,Q1];exact rfl) | exact rfl)
       ·kernel_rfl
       ·kernel_rfl
       ·kernel_rfl
       ·rfl
       ·exact fun _ _ _ h=>h
       ·exact Or.inl ⟨Z5,fun w _=>Zn⟩
       try simp only [Act.put,J0,JT,Y0]
       refine aD (i:=4) (oi:=?_) (v:=.int .i64 q2) ?_ ?_ ?_ ?_ ?_ ?_ ?_ ?_;rotate_left 1
       ·(first | (simp only [Jx,Q2,Q1];exact rfl) | exact rfl)
       ·kernel_rfl
       ·kernel_rfl
       ·kernel_rfl
       ·rfl
       ·exact fun _ _ _ h=>h
       ·exact Or.inl ⟨Z5,fun w _=>Zn⟩
       try simp only [Act.put,J0,JT,Y0]
       refine aD (i:=5) (oi:=?_) (v:=.string (s.extract N q2)) ?_ ?_ ?_ ?_ ?_ ?_ ?_ ?_;rotate_left 1
       ·(first | (simp only [Jx,Q2,Q1];exact rfl) | exact rfl)
       ·kernel_rfl
       ·kernel_rfl
       ·kernel_rfl
       ·rfl
       ·exact fun _ _ _ h=>h
       ·exact Or.inl ⟨Z5,fun w _=>Zn⟩
       try simp only [Act.put,J0,JT,Y0]
       refine ak (i:=1) (oi:=?_) (v:=.slice A i c2) ?_ ?_ ?_ ?_ ?_ ?_ ?_ S ?_;rotate_left 1
       ·(first | (simp only [Jx,Q2,Q1];exact rfl) | exact rfl)
       ·kernel_rfl
       ·kernel_rfl
       ·kernel_rfl
       ·kernel_rfl
       ·exact fun _ _ _ h=>h
       ·refine Or.inl ⟨Z5,fun w be=>?_⟩
        have k0:=be.cell g4 ng;clear be;go_simp
       try simp only [Act.put,J0,JT,Y0]
       refine au (rs:=[6]) Z1 Z3 ?_;refine ai.cons (o:=?_) ?_ (fun K X=>?_) ai.nil;rotate_left 1
       ·(first | (simp only [Jx,Q2,Q1];exact rfl) | exact rfl)
       refine fI (.cells #[.string (s.extract N q2)] 9) (x:=.tmp 174) (u:=.string (s.extract N q2)) rfl Z5 (fun ρ am=>?_) ?_
       ·exact VZ _ rfl ρ am _
       have hn:=hn.alloc (.cells #[.string (s.extract N q2)] 9);have C:=C.alloc (.cells #[.string (s.extract N q2)] 9);have bg:=sS S #[.string (s.extract N q2)] 9;have S:=S.alloc (.cells #[.string (s.extract N q2)] 9);refine X.out _ _ S (fun _=>?_);clear X K
       try simp only [Act.put,J0,JT,Y0]
       refine au (rs:=[7]) Z1 Z3 ?_;refine ai.cons (o:=?_) ?_ (fun K X=>?_) ai.nil;rotate_left 1
       ·(first | (simp only [Jx,Q2,Q1];exact rfl) | exact rfl)
       obtain ⟨iI,bo,bb,bc,bd⟩:=info_parts IX;refine bU _ rfl (.tmp 170) (.tmp 175) _ Z5 w.heap.size 9 iI (.string ⟨#[]⟩) 1 16 underlying22 bo bb bc bd Z5 Z2 (.slice A i c2) i _ Z5 hn _ _ 1 1 [.string (s.extract N q2)] Z5 (eD bg Z5) Zd Ze Z0 (by have:=S.size;have:=G.size;omega) ?_;intro nv wn P D Y;obtain ⟨A7,c7,rfl⟩:=iH P;have C:=C.grown D (fun e=>ng e.symm);have Y:=xR Y S.size;have S:=S.grown D (fun b e=>.inl e);refine X.out _ _ S (fun _=>?_);clear X K hn bo bb bc bd iI
       try simp only [Act.put,J0,JT,Y0]
       refine au (rs:=[8]) Z1 Z3 ?_;refine ai.late (o:=?_) ?_ rfl (fun K X=>?_) ai.nil;rotate_left 1
       ·(first | (simp only [Jx,Q2,Q1];exact rfl) | exact rfl)
       refine dw (x:=.tmp 7) (u:=.pointer (some ⟨w.heap.size+1,0,none⟩)) (v:=.pointer (some ⟨w.heap.size+1,4,none⟩)) rfl Z5 (fun ρ am=>?_) ?_
       ·exact VE _ rfl ρ am _
       refine X.out _ _ ?_;clear X K
       try simp only [Act.put,J0,JT,Y0]
       refine au (rs:=[9]) Z1 Z3 ?_;refine ai.late (o:=?_) ?_ rfl (fun K X=>?_) ai.nil;rotate_left 1
       ·(first | (simp only [Jx,Q2,Q1];exact rfl) | exact rfl)
       refine eO (p:=⟨w.heap.size+1,4,none⟩) (x:=.tmp 177) (y:=.tmp 176) (u:=.pointer (some ⟨w.heap.size+1,4,none⟩)) (v:=.slice A7 (i+1) c7) rfl Z5 Z5 (fun ρ am b7=>?_) ?_
       ·exact VX _ rfl ρ am b7 _ C Z3
       refine X.out _ _ ?_;clear X K;have F:=dm P C Z2 4 (.slice A7 (i+1) c7);have b6:=(S.blk R nz).far (p:=⟨w.heap.size+1,4,none⟩) Z3 (.slice A7 (i+1) c7);have bh:Below w.heap.size w (wn.setCell ⟨w.heap.size+1,4,none⟩ (.slice A7 (i+1) c7)):=Below.setCell (p:=⟨w.heap.size+1,4,none⟩) (GD G S bx G.size) Z3 _;have ap:=C.set_ 4 (.slice A7 (i+1) c7)
       try simp only [Act.put,J0,JT,Y0]
       refine cB Z1 ?_ _;clear S C P D Y bg ad R G T g4 ng nz bx;generalize wn.setCell ⟨w.heap.size+1,4,none⟩ (.slice A7 (i+1) c7)=wz at F b6 bh ap ⊢;rw [cd.out] at F;have Q:=hide F;clear F;go_wp2_with fail;exact ⟨⟨i+1,Zr,a5,bh,b6,.inl ⟨l++[t],q2,A7,c7,rfl,rfl,ce.out,by rw [Ya,z.out];rfl,a8.out,Z0,ch,by simpa using ap,by simpa using Q.out⟩⟩,Zh⟩
       --ENDAPP
     ·have bp:¬ (i:Int)<n:=by omega
      have bq:i=n:=Z0;subst bq;have hT:Txs wr (.slice A i c2) (l.map enc):=uO J (by rw [Yd,z.out])
      have Z:∀t∈l,fine t:=fun t ht=>by
       refine ⟨(gT l).1 Hg.out t ht,?_⟩;have h9:=Ye List.length Hd.out;rw [Ya,Yu] at h9;have ck:s.data.toList.length=s.size:=rfl;have cl:=CE ht;omega
      have bn:hw k a b s' l.length:=by rw [z.out];exact H4.out.1
      have HR:=hide (Gj (k:=k) (n:=i) (c:=c2) (A:=A) bn hT Z Z0 (fun e=>by rw [z.out];exact H8.out e) (fun e=>by rw [z.out];exact H9.out e));clear hT Z bn;have x0:wr.cell? ⟨w.heap.size+1,0,none⟩=some (.int .i64 k):=B.cell 0;have x1:wr.cell? ⟨w.heap.size+1,1,none⟩=some (.int .i64 a):=B.cell 1;have x2:wr.cell? ⟨w.heap.size+1,2,none⟩=some (.int .i64 b):=B.cell 2;have x3:wr.cell? ⟨w.heap.size+1,3,none⟩=some (.string s'):=B.cell 3;have x4:wr.cell? ⟨w.heap.size+1,4,none⟩=some (.slice A i c2):=B.cell 4;go_wp2_with fail;refine HR.out.mono ?_;rintro e w3 ⟨rb,rfl,aE,hb3⟩;have ao:=hide aE;have g:=hzr.below hb3 hzr.lt;have L:=B.below hb3 B.lt;have aq:Below w.heap.size w w3:=ku hbr hb3;have Q:=J.kept (ag hb3 none) (nZ (fun _ _=>Z3));clear aE x0 x1 x2 x3 x4 hzr B hbr hb3 J hzw hbw a9;have z0:w3.cell? ⟨w.heap.size,0,none⟩=some (.int .i64 0):=g.cell 0;have z1:w3.cell? ⟨w.heap.size,1,none⟩=some (.int .i64 0):=g.cell 1;have z2:w3.cell? ⟨w.heap.size,2,none⟩=some (.int .i64 0):=g.cell 2;have z3:w3.cell? ⟨w.heap.size,3,none⟩=some (.string ⟨#[]⟩):=g.cell 3;have z4:w3.cell? ⟨w.heap.size,4,none⟩=some (.slice none 0 0):=g.cell 4;have zf0:=g.frozen 0;have zf1:=g.frozen 1;have zf2:=g.frozen 2;have zf3:=g.frozen 3;have zf4:=g.frozen 4;have x0:w3.cell? ⟨w.heap.size+1,0,none⟩=some (.int .i64 k):=L.cell 0;have x1:w3.cell? ⟨w.heap.size+1,1,none⟩=some (.int .i64 a):=L.cell 1;have x2:w3.cell? ⟨w.heap.size+1,2,none⟩=some (.int .i64 b):=L.cell 2;have x3:w3.cell? ⟨w.heap.size+1,3,none⟩=some (.string s'):=L.cell 3
      have x4:w3.cell? ⟨w.heap.size+1,4,none⟩=some (.slice A i c2):=L.cell 4
      cases rb with
      | true =>
       have HY:=hide (show good (.mk k a b s' l)/\s.data.toList.drop p=enc (.mk k a b s' l)++s.data.toList.drop N from by
        rw [H1.out];refine H4.out.yes H2.out h3 Hg.out z.out Hd.out ?_;have U:=ao.out.1 rfl;unfold eZ at U;rw [z.out] at U
        exact U)
       go_wp2_with fail
       obtain ⟨W,hW⟩:∃W,W=pJ w3 w.heap.size (.int .i64 k) (.int .i64 a) (.int .i64 b) (.string s') (.slice A i c2):=⟨_,rfl⟩
       change bodyPost _ _ _ _ _ (pJ w3 w.heap.size (.int .i64 k) (.int .i64 a) (.int .i64 b) (.string s') (.slice A i c2));rw [<-hW];have hBW:Blk W w.heap.size 274 #[.int .i64 k,.int .i64 a,.int .i64 b,.string s',.slice A i c2]:=by rw [hW];exact mq g _ _ _ _ _
       have hbW:Below w.heap.size w W:=by rw [hW];exact jc aq (Y2 _) _ _ _ _ _
       have cb:TxL w.heap.size W (.slice A i c2) (l.map enc):=SL (MK Q g Z2 hW) (by rw [Yd,z.out]);have r0:W.cell? ⟨w.heap.size,0,none⟩=some (.int .i64 k):=hBW.cell 0;have r1:W.cell? ⟨w.heap.size,1,none⟩=some (.int .i64 a):=hBW.cell 1;have r2:W.cell? ⟨w.heap.size,2,none⟩=some (.int .i64 b):=hBW.cell 2;have r3:W.cell? ⟨w.heap.size,3,none⟩=some (.string s'):=hBW.cell 3;have r4:W.cell? ⟨w.heap.size,4,none⟩=some (.slice A i c2):=hBW.cell 4;clear hW;exact bodyPost_ret (v:=.tuple #[.agg #[.int .i64 k,.int .i64 a,.int .i64 b,.string s',.slice A i c2],.int .i64 N,.bool true]) (by simp [results,results263,go_sem,r0,r1,r2,r3,r4]) rfl ⟨hbW,.inr ⟨.mk k a b s' l,N,A,i,c2,HY.out.1,Z0,b0,HY.out.2,cb,rfl⟩⟩
      | false =>
       have HN:=hide (show NoT (s.data.toList.drop p) from by
        rw [H1.out];refine H4.out.not H2.out Hg.out z.out Hd.out (fun h=>?_);have U:false=true:=ao.out.2 (by unfold eZ;rw [z.out];exact h)
        cases U)
       go_wp2_with fail
       obtain ⟨W,hW⟩:∃W,W=pJ w3 w.heap.size (.int .i64 0) (.int .i64 0) (.int .i64 0) (.string ⟨#[]⟩) (.slice none 0 0):=⟨_,rfl⟩
       change bodyPost _ _ _ _ _ (pJ w3 w.heap.size (.int .i64 0) (.int .i64 0) (.int .i64 0) (.string ⟨#[]⟩) (.slice none 0 0));rw [<-hW];have hBW:Blk W w.heap.size 274 #[.int .i64 0,.int .i64 0,.int .i64 0,.string ⟨#[]⟩,.slice none 0 0]:=by rw [hW];exact mq g _ _ _ _ _
       have hbW:Below w.heap.size w W:=by rw [hW];exact jc aq (Y2 _) _ _ _ _ _
       have r0:W.cell? ⟨w.heap.size,0,none⟩=some (.int .i64 0):=hBW.cell 0;have r1:W.cell? ⟨w.heap.size,1,none⟩=some (.int .i64 0):=hBW.cell 1;have r2:W.cell? ⟨w.heap.size,2,none⟩=some (.int .i64 0):=hBW.cell 2;have r3:W.cell? ⟨w.heap.size,3,none⟩=some (.string ⟨#[]⟩):=hBW.cell 3;have r4:W.cell? ⟨w.heap.size,4,none⟩=some (.slice none 0 0):=hBW.cell 4;clear hW;exact bodyPost_ret (v:=.tuple #[.agg #[.int .i64 0,.int .i64 0,.int .i64 0,.string ⟨#[]⟩,.slice none 0 0],.int .i64 p,.bool false]) (by simp [results,results263,go_sem,r0,r1,r2,r3,r4]) rfl (jM.no HN.out hbW)
    ·have Hno:=hide (H4.out.no (c:=c') H2.out I)
     rw [<-H1.out] at Hno;clear I;have z0:wr.cell? ⟨w.heap.size,0,none⟩=some (.int .i64 0):=hzr.cell 0;have z1:wr.cell? ⟨w.heap.size,1,none⟩=some (.int .i64 0):=hzr.cell 1;have z2:wr.cell? ⟨w.heap.size,2,none⟩=some (.int .i64 0):=hzr.cell 2;have z3:wr.cell? ⟨w.heap.size,3,none⟩=some (.string ⟨#[]⟩):=hzr.cell 3;have z4:wr.cell? ⟨w.heap.size,4,none⟩=some (.slice none 0 0):=hzr.cell 4;have zf0:=hzr.frozen 0;have zf1:=hzr.frozen 1;have zf2:=hzr.frozen 2;have zf3:=hzr.frozen 3;have zf4:=hzr.frozen 4
     by_cases bp:(i:Int)<n
     ·go_wp2_with fail
      exact zz926
     ·go_wp2_with fail
      exact zz926
end Go.Proofs.YtnhekaepgpbijaaGreatDoor
